/- Rules and contracts, part 5 of 6. -/
import Derived.Test.YthkdmhaafanjlaaQModhnfIndex4
namespace Go.Proofs.Ythkdmhaafanjlaa
open Go.En Go.RowKit
set_option maxRecDepth 10000
set_option maxHeartbeats 4000000
open Go.Nt
open Go.Pz
open Go.Mz
open Go.Dt
theorem ref11_Formed {r c : Int} {xs : List (Bool × List Nat)} : Ctr Try.prog 10 [isM r c xs] (isB (formB r c xs.length)) := by
 refine Ctr.intro Try.func10 rfl (by kernel_rfl) Try.ntmps10 rfl fun w0 F0 => ?_
 refine .cv (Cv.wk (.k 0 rfl .nil)) ?_
 refine .seq fun _ k1 => .region (.box (.t rfl) rfl fun b1 => ?_)
 refine st (.as (Has.cB false)) rfl ?_
 refine nl (.thn (k1 _ _ ?_))
 refine .seq fun _ k2 => .region (st (.fieldAddr (.t rfl) fld24_0 ty3) rfl ?_)
 refine st (.load1 (.t rfl) (i := 0) rfl ty3 rfl) rfl (st (.geI (.t rfl) (Has.cI 0 rfl)) rfl ?_)
 refine st (.mv (.t rfl)) rfl ?_
 refine stT rfl rfl (fun hg => have hg' := BP.t hg; OK1.fieldAddr (.t rfl) fld24_0 ty3) rfl ?_
 refine stT rfl rfl (fun hg => have hg' := BP.t hg; OK1.load1 (Has.g rfl hg) (i := 0) rfl ty3 rfl) rfl ?_
 refine stT rfl rfl (fun hg => have hg' := BP.t hg; OK1.leI (Has.g rfl hg) (Has.cI 64 rfl)) rfl ?_
 refine st (.pickAnd (.t rfl) (fun h => Has.g rfl h)) rfl ?_
 refine st (.mv (.t rfl)) rfl ?_
 refine stT rfl rfl (fun hg => have hg' := BP.t hg; OK1.fieldAddr (.t rfl) fld24_1 ty3) rfl ?_
 refine stT rfl rfl (fun hg => have hg' := BP.t hg; OK1.load1 (Has.g rfl hg) (i := 0) rfl ty3 rfl) rfl ?_
 refine stT rfl rfl (fun hg => have hg' := BP.t hg; OK1.geI (Has.g rfl hg) (Has.cI 0 rfl)) rfl ?_
 refine st (.pickAnd (.t rfl) (fun h => Has.g rfl h)) rfl ?_
 refine st (.mv (.t rfl)) rfl ?_
 refine stT rfl rfl (fun hg => have hg' := BP.t hg; OK1.fieldAddr (.t rfl) fld24_1 ty3) rfl ?_
 refine stT rfl rfl (fun hg => have hg' := BP.t hg; OK1.load1 (Has.g rfl hg) (i := 0) rfl ty3 rfl) rfl ?_
 refine stT rfl rfl (fun hg => have hg' := BP.t hg; OK1.leI (Has.g rfl hg) (Has.cI 64 rfl)) rfl ?_
 refine st (.pickAnd (.t rfl) (fun h => Has.g rfl h)) rfl ?_
 refine st (.mv (.t rfl)) rfl ?_
 refine stT rfl rfl (fun hg => have hg' := BP.t hg; OK1.fieldAddr (.t rfl) fld24_2 ty22) rfl ?_
 refine stT rfl rfl (fun hg => have hg' := BP.t hg; OK1.load1 (Has.g rfl hg) (i := 0) rfl ty22 rfl) rfl ?_
 refine stT rfl rfl (fun hg => have hg' := BP.t hg; OK1.len sl22 (Has.g rfl hg)) rfl ?_
 refine stT rfl rfl (fun hg => have hg' := BP.t hg; OK1.fieldAddr (.t rfl) fld24_0 ty3) rfl ?_
 refine stT rfl rfl (fun hg => have hg' := BP.t hg; OK1.load1 (Has.g rfl hg) (i := 0) rfl ty3 rfl) rfl ?_
 refine stT rfl rfl (fun hg => have hg' := BP.t hg; OK1.fieldAddr (.t rfl) fld24_1 ty3) rfl ?_
 refine stT rfl rfl (fun hg => have hg' := BP.t hg; OK1.load1 (Has.g rfl hg) (i := 0) rfl ty3 rfl) rfl ?_
 refine stT rfl rfl (fun hg => have hg' := BP.t hg; OK1.mulI (Has.g rfl hg) (Has.g rfl hg) (by have := mul_bnd ⟨⟨hg'.1.1.1, hg'.1.1.2⟩, hg'.1.2, hg'.2⟩; omega) (by have := mul_bnd ⟨⟨hg'.1.1.1, hg'.1.1.2⟩, hg'.1.2, hg'.2⟩; omega)) rfl ?_
 refine stT rfl rfl (fun hg => have hg' := BP.t hg; OK1.eqI (Has.g rfl hg) (Has.g rfl hg)) rfl ?_
 refine st (.pickAnd (.t rfl) (fun h => Has.g rfl h)) rfl ?_
 refine st (.as (.t rfl)) rfl ?_
 refine nl (.thn (k2 _ _ ?_))
 refine .cv (Cv.wk (.k 2 rfl .nil)) ?_
 refine .ret ?_
 refine rt1 (.inl rfl) Try.results10 rfl (.tmp (Has.t' rfl ?_) .nil)
 all_goals (exact isB_eq (by unfold formB; simp only [Bool.and_assoc]))
theorem ref11_At {r : Int} {C i k : Nat} {xs : List (Bool × List Nat)} (hx : xs.length ≤ 4096) (hl : i * C + k < xs.length) : Ctr Try.prog 72 [isM r (C : Int) xs, isI (i : Int), isI (k : Int)] (Flat (zc (xs.getD (i * C + k) (false, [])))) := by
 refine Ctr.intro Try.func72 rfl (by kernel_rfl) Try.ntmps72 rfl fun w0 F0 => ?_
 refine .cv (Cv.wk (.k 0 rfl (.k 1 rfl (.k 2 rfl .nil)))) ?_
 refine .fact (Has.rngI (Has.t (t := 1) rfl)) fun lt1 => ?_
 refine .fact (Has.rngI (Has.t (t := 2) rfl)) fun lt2 => ?_
 have hcp : ((i : Int) * (C : Int)) = ((i * C : Nat) : Int) := (Int.natCast_mul i C).symm
 refine .seq fun _ k1 => .region (.box (.t rfl) rfl fun b1 => ?_)
 refine .alloc [isB false, SlM isU []] zero30 (fun _ _ => ⟨rfl, nilM _ _, trivial⟩) rfl fun b2 => ?_
 refine nl (.thn (k1 _ _ ?_))
 refine .seq fun _ k2 => .region (st (.fieldAddr (.t rfl) fld24_2 ty22) rfl ?_)
 refine st (.load1 (.t rfl) (i := 1) rfl ty22 rfl) rfl ?_
 refine st (.mv (.t rfl)) rfl (st (.fieldAddr (.t rfl) fld24_1 ty3) rfl ?_)
 refine st (.load1 (.t rfl) (i := 1) rfl ty3 rfl) rfl (st (.eq (.mulI (.t rfl) (.t rfl) (by first | omega | (rw [hcp]; omega)) (by first | omega | (rw [hcp]; omega))) ((show isI _ = isI ((i * C : Nat) : Int) from isI_eq hcp))) rfl ?_)
 refine st (.mv (.t rfl)) rfl (st (.eq (.addI (.t rfl) (.t rfl) (by first | omega | (rw [hcp]; omega)) (by first | omega | (rw [hcp]; omega))) ((show isI _ = isI ((i * C + k : Nat) : Int) from isI_eq (by omega)))) rfl ?_)
 refine st (.ixK sl22 ty30 (.t rfl) (.t rfl) zc_len ⟨by omega, by omega⟩ (getD_some (d := (false, [])) (by first | omega | (simp only [Int.toNat_natCast, List.length_set]; omega)))) rfl ?_
 refine st (.loadP (.t rfl) ty30 rfl (Ss' := [_, _]) rfl) rfl ?_
 refine .store (.t rfl) (.t rfl) (i := 0) rfl ty30 rfl rfl (Ss' := [_, _]) rfl (M' := [(some _, cellM [_, _]), _]) rfl ?_
 refine nl (.thn (k2 _ _ ?_))
 refine .cv (Cv.wk (.k 6 rfl .nil)) ?_
 refine .ret ?_
 refine rt1 (.inl rfl) Try.results72 rfl (.cell rfl (i := 0) rfl ty30 rfl ?_ .nil)
 all_goals (rfl)
theorem ref11_Few {r c n w : Int} {xs : List (Bool × List Nat)} : Ctr Try.prog 7 [isM r c xs, isI n, isI w] (isB (decide (r ≤ n) && decide (c ≤ n) && fewB xs 100 w)) := by
 refine Ctr.intro Try.func7 rfl (by kernel_rfl) Try.ntmps7 rfl fun w0 F0 => ?_
 refine .cv (Cv.wk (.k 0 rfl (.k 1 rfl (.k 2 rfl .nil)))) ?_
 refine .fact (Has.rngI (Has.t (t := 1) rfl)) fun lt1 => ?_
 refine .fact (Has.rngI (Has.t (t := 2) rfl)) fun lt2 => ?_
 refine .seq fun _ k1 => .region (.box (.t rfl) rfl fun b1 => ?_)
 refine st (.as (Has.cB false)) rfl ?_
 refine nl (.thn (k1 _ _ ?_))
 refine .seq fun _ k2 => .region (st (.fieldAddr (.t rfl) fld24_0 ty3) rfl ?_)
 refine st (.load1 (.t rfl) (i := 0) rfl ty3 rfl) rfl ?_
 refine st (.mv (.t rfl)) rfl (st (.leI (.t rfl) (.t rfl)) rfl ?_)
 refine st (.mv (.t rfl)) rfl ?_
 refine stT rfl rfl (fun hg => have hg' := BP.t hg; OK1.fieldAddr (.t rfl) fld24_1 ty3) rfl ?_
 refine stT rfl rfl (fun hg => have hg' := BP.t hg; OK1.load1 (Has.g rfl hg) (i := 0) rfl ty3 rfl) rfl ?_
 refine stT rfl rfl (fun hg => have hg' := BP.t hg; OK1.mv (.t rfl)) rfl ?_
 refine stT rfl rfl (fun hg => have hg' := BP.t hg; OK1.leI (Has.g rfl hg) (Has.g rfl hg)) rfl ?_
 refine st (.pickAnd (.t rfl) (fun h => Has.g rfl h)) rfl ?_
 refine st (.mv (.t rfl)) rfl ?_
 refine stT rfl rfl (fun hg => have hg' := BP.t hg; OK1.fieldAddr (.t rfl) fld24_2 ty22) rfl ?_
 refine stT rfl rfl (fun hg => have hg' := BP.t hg; OK1.load1 (Has.g rfl hg) (i := 0) rfl ty22 rfl) rfl ?_
 refine stT rfl rfl (fun hg => have hg' := BP.t hg; OK1.mv (.t rfl)) rfl ?_
 refine stT rfl rfl (fun hg => have hg' := BP.t hg; OK1.call (ref10_Few) (.cons (Has.g rfl hg) (.cons (Has.cI 100 rfl) (.cons (Has.g rfl hg) .nil)))) rfl ?_
 refine st (.pickAnd (.t rfl) (fun h => Has.g rfl h)) rfl ?_
 refine st (.as (.t rfl)) rfl ?_
 refine nl (.thn (k2 _ _ ?_))
 refine .cv (Cv.wk (.k 6 rfl .nil)) ?_
 refine .ret ?_
 refine rt1 (.inl rfl) Try.results7 rfl (.tmp (Has.t' rfl ?_) .nil)
 all_goals (rfl)
theorem ref12_Without {R C i k : Nat} {xs : List (Bool × List Nat)} (hR : R ≤ 64) (hC : C ≤ 64) (hl : xs.length = R * C) (hi : i < R) (hk : k < C) : Ctr Try.prog 73 [isM (R : Int) (C : Int) xs, isI (i : Int), isI (k : Int)] (isM ((R : Int) - 1) ((C : Int) - 1) (wo R C i k xs)) := by
 refine Ctr.intro Try.func73 rfl (by kernel_rfl) Try.ntmps73 rfl fun w0 F0 => ?_
 refine .cv (Cv.wk (.k 0 rfl (.k 1 rfl (.k 2 rfl .nil)))) ?_
 refine .fact (Has.rngI (Has.t (t := 1) rfl)) fun lt1 => ?_
 refine .fact (Has.rngI (Has.t (t := 2) rfl)) fun lt2 => ?_
 have hRC := side_le hR hC
 have hRC1 := side_le (R := R - 1) (C := C - 1) (by omega) (by omega)
 refine .seq fun _ k1 => .region (.box (.t rfl) rfl fun b1 => ?_)
 refine .alloc [isI 0, isI 0, nilS] zero24 (fun _ _ => ⟨⟨rfl, by decide, by decide⟩, ⟨rfl, by decide, by decide⟩, rfl, trivial⟩) rfl fun b2 => ?_
 refine nl (.thn (k1 _ _ ?_))
 refine .seq fun _ k2 => .region (st (.fieldAddr (.t rfl) fld24_0 ty3) rfl ?_)
 refine st (.load1 (.t rfl) (i := 1) rfl ty3 rfl) rfl (st (.subI (.t rfl) (Has.cI 1 rfl) (by first | omega | assumption) (by first | omega | assumption)) rfl ?_)
 refine st (.fieldAddr (.t rfl) fld24_1 ty3) rfl (st (.load1 (.t rfl) (i := 1) rfl ty3 rfl) rfl ?_)
 refine st (.subI (.t rfl) (Has.cI 1 rfl) (by first | omega | assumption) (by first | omega | assumption)) rfl ?_
 refine st (.build [isI 0, isI 0, nilS] pl24 zero24 (fun _ _ => ⟨⟨rfl, by decide, by decide⟩, ⟨rfl, by decide, by decide⟩, rfl, trivial⟩) (.cons (.t rfl) rfl rfl rfl (.cons (.t rfl) rfl rfl rfl .nil)) (Z'' := [_, _, _]) rfl) rfl ?_
 refine .alloc [isI 0, isI 0, nilS] zero24 (fun _ _ => ⟨⟨rfl, by decide, by decide⟩, ⟨rfl, by decide, by decide⟩, rfl, trivial⟩) rfl fun b3 => ?_
 refine .store (.t rfl) (.t rfl) (i := 0) rfl ty24 rfl rfl (Ss' := [_, _, _]) rfl (M' := [(some _, cellM [_, _, _]), _, _]) rfl ?_
 refine nl (.thn (k2 _ _ ?_))
 refine .cv (Cv.wk (.k 1 rfl (.k 2 rfl (.k 3 rfl (.k 6 rfl (.k 7 rfl .nil)))))) ?_
 refine .seq fun _ k3 => ?_
 refine .seq fun _ k4 => ?_
 refine .cv (Cv.growF (Bool × List Nat) (i := 0) (o := 2) rfl rfl rfl) ?_
 refine .memEq (M' := [grMK zc Gr.nil [], _, _, _]) rfl ?_
 refine .region (st (.as (Has.cI 0 rfl)) rfl ?_)
 refine nl (.thn (k4 _ _ ?_))
 refine .block ?_
 refine .loopF [1, 2, 3, 6, 7] (fun (z : { z : Nat × Gr (Bool × List Nat) // z.1 ≤ R }) => match z with | ⟨(r, g), hI⟩ => [(8, isI (r : Int))]) (fun M => fun (z : { z : Nat × Gr (Bool × List Nat) // z.1 ≤ R }) => match z with | ⟨(r, g), hI⟩ => [grMK zc g (tabR (woN C i k r 0) (C - 1) (woG C i k xs)), (some b3, cellM [isI ((R : Int) - 1), isI ((C : Int) - 1), isGr g (tabR (woN C i k r 0) (C - 1) (woG C i k xs)).length]), (some b2, cellM [isI 0, isI 0, nilS]), (some b1, cellM [isI (R : Int), isI (C : Int), SlK 2 zc xs])]) (fun (z : { z : Nat × Gr (Bool × List Nat) // z.1 ≤ R }) => match z with | ⟨(r, g), hI⟩ => R - r) (⟨(0, Gr.nil), Nat.zero_le _⟩) (Cv.mem (.cons (t := 8) (Has.t' rfl ?_) (.k 1 rfl (.k 2 rfl (.k 3 rfl (.k 6 rfl (.k 7 rfl .nil)))))) ?_) ?_
 ·rfl
 ·exact grR_eq (n := 0) (ys := []) (by rw [tabR_len, woN_zero]) (show [] = tabR (woN C i k 0 0) _ _ by rw [woN_zero]; rfl)
 rintro ⟨⟨r, g⟩, hI⟩ K5 hK5
 refine .cv (Cv.wk (.k 8 rfl (.k 1 rfl (.k 2 rfl (.k 3 rfl (.k 6 rfl (.k 7 rfl .nil))))))) ?_
 refine .memEq (M' := [grMK zc g (tabR (woN C i k r 0) (C - 1) (woG C i k xs)), (some b3, cellM [isI ((R : Int) - 1), isI ((C : Int) - 1), isGr g (tabR (woN C i k r 0) (C - 1) (woG C i k xs)).length]), (some b2, cellM [isI 0, isI 0, nilS]), (some b1, cellM [isI (R : Int), isI (C : Int), SlK 2 zc xs])]) rfl ?_
 simp only [] at hI
 refine .seq fun _ k6 => ?_
 refine .seq fun _ k7 => .region (st (.mv (.t rfl)) rfl ?_)
 refine st (.fieldAddr (.t rfl) fld24_0 ty3) rfl (st (.load1 (.t rfl) (i := 3) rfl ty3 rfl) rfl ?_)
 refine st (.ltI (.t rfl) (.t rfl)) rfl ?_
 refine nl (.thn (k7 _ _ ?_))
 refine .cond (.t rfl) (fun hc1 => ?_) (fun hc1 => ?_)
 ·have hc1 := BP.t hc1
  refine .skip ?_
  refine .thn (k6 _ _ ?_)
  refine .seq fun _ k8 => ?_
  refine .block ?_
  refine .seq fun _ k9 => .region (st (.as (Has.cI 0 rfl)) rfl ?_)
  refine nl (.thn (k9 _ _ ?_))
  refine .block ?_
  refine .loopF [1, 2, 3, 6, 7, 8, 17, 18, 19, 20] (fun (z : { z : Nat × Gr (Bool × List Nat) // z.1 ≤ C }) => match z with | ⟨(c, g2), hK⟩ => [(9, isI (c : Int))]) (fun M => fun (z : { z : Nat × Gr (Bool × List Nat) // z.1 ≤ C }) => match z with | ⟨(c, g2), hK⟩ => [grMK zc g2 (tabR (woN C i k r c) (C - 1) (woG C i k xs)), (some b3, cellM [isI ((R : Int) - 1), isI ((C : Int) - 1), isGr g2 (tabR (woN C i k r c) (C - 1) (woG C i k xs)).length]), (some b2, cellM [isI 0, isI 0, nilS]), (some b1, cellM [isI (R : Int), isI (C : Int), SlK 2 zc xs])]) (fun (z : { z : Nat × Gr (Bool × List Nat) // z.1 ≤ C }) => match z with | ⟨(c, g2), hK⟩ => C - c) (⟨(0, g), Nat.zero_le _⟩) (Cv.mem (.cons (t := 9) (Has.t' rfl ?_) (.k 1 rfl (.k 2 rfl (.k 3 rfl (.k 6 rfl (.k 7 rfl (.k 8 rfl (.k 17 rfl (.k 18 rfl (.k 19 rfl (.k 20 rfl .nil))))))))))) ?_) ?_
  ·rfl
  ·rfl
  rintro ⟨⟨c, g2⟩, hK⟩ K10 hK10
  refine .cv (Cv.wk (.k 9 rfl (.k 1 rfl (.k 2 rfl (.k 3 rfl (.k 6 rfl (.k 7 rfl (.k 8 rfl (.k 17 rfl (.k 18 rfl (.k 19 rfl (.k 20 rfl .nil)))))))))))) ?_
  refine .memEq (M' := [grMK zc g2 (tabR (woN C i k r c) (C - 1) (woG C i k xs)), (some b3, cellM [isI ((R : Int) - 1), isI ((C : Int) - 1), isGr g2 (tabR (woN C i k r c) (C - 1) (woG C i k xs)).length]), (some b2, cellM [isI 0, isI 0, nilS]), (some b1, cellM [isI (R : Int), isI (C : Int), SlK 2 zc xs])]) rfl ?_
  simp only [] at hK
  refine .seq fun _ k11 => ?_
  refine .seq fun _ k12 => .region (st (.mv (.t rfl)) rfl ?_)
  refine st (.fieldAddr (.t rfl) fld24_1 ty3) rfl (st (.load1 (.t rfl) (i := 3) rfl ty3 rfl) rfl ?_)
  refine st (.ltI (.t rfl) (.t rfl)) rfl ?_
  refine nl (.thn (k12 _ _ ?_))
  refine .cond (.t rfl) (fun hc2 => ?_) (fun hc2 => ?_)
  ·have hc2 := BP.t hc2
   refine .skip ?_
   refine .thn (k11 _ _ ?_)
   refine .seq fun _ k13 => ?_
   refine .block ?_
   refine .seq fun _ k14 => .region (st (.mv (.t rfl)) rfl ?_)
   refine st (.mv (.t rfl)) rfl (st (.neI (.t rfl) (.t rfl)) rfl ?_)
   refine st (.mv (.t rfl)) rfl ?_
   refine stT rfl rfl (fun hg => have hg' := BP.t hg; OK1.mv (.t rfl)) rfl ?_
   refine stT rfl rfl (fun hg => have hg' := BP.t hg; OK1.mv (.t rfl)) rfl ?_
   refine stT rfl rfl (fun hg => have hg' := BP.t hg; OK1.neI (Has.g rfl hg) (Has.g rfl hg)) rfl ?_
   refine st (.pickAnd (.t rfl) (fun h => Has.g rfl h)) rfl ?_
   refine nl (.thn (k14 _ _ ?_))
   refine .cond (.t rfl) (fun hc3 => ?_) (fun hc3 => ?_)
   ·have hc3 := BP.t hc3
    have hrc := hc3
    have hr : r ≠ i := (by omega)
    have hc : c ≠ k := (by omega)
    have hpl := place_lt (show r < R by omega) (show c < C by omega)
    have hwl := woN_le (R := R) (c := c + 1) hi hk (show r < R by omega) (show c + 1 ≤ C by omega)
    have hwn := woN_on (C := C) hr hc
    refine .dr ?_
    refine .s [] rfl rfl rfl (.o rfl (.fieldAddr (.t rfl) fld24_2 ty22)) ?_
    refine .s [37] rfl rfl rfl (.o rfl (.load1 (.t rfl) (i := 1) rfl ty22 rfl)) ?_
    refine .s [] rfl rfl rfl (.o rfl (.load (.t rfl) (i := 3) rfl ty24 rfl (Ss' := [_, _, _]) rfl)) ?_
    refine .s [] rfl rfl rfl (.o rfl (.mv (.t rfl))) ?_
    refine .s [] rfl rfl rfl (.o rfl (.mv (.t rfl))) ?_
    refine .s [39, 40, 41] rfl rfl rfl (.o rfl (.call (ref11_At (i := r) (k := c) (by omega) (by omega)) (.cons (.t rfl) (.cons (.t rfl) (.cons (.t rfl) .nil))))) ?_
    refine .s [42] rfl rfl rfl (.o rfl (.buildS [isB false, SlM isU []] sl22 ty30 zero30 (fun _ _ => ⟨rfl, nilM _ _, trivial⟩) rfl rfl (.cons (.t rfl) rfl rfl rfl .nil) rfl (S := SlK 2 zc [xs.getD (r * C + c) (false, [])]) rfl)) ?_
    refine .fin (n := 7) mixed (by kernel_rfl) (by kernel_rfl) (by kernel_rfl) ?_
    refine .cv (Cv.wk (.k 1 rfl (.k 2 rfl (.k 3 rfl (.k 6 rfl (.k 7 rfl (.k 8 rfl (.k 17 rfl (.k 18 rfl (.k 19 rfl (.k 20 rfl (.k 9 rfl (.k 23 rfl (.k 24 rfl (.k 25 rfl (.k 26 rfl (.k 29 rfl (.k 30 rfl (.k 31 rfl (.k 32 rfl (.k 33 rfl (.k 34 rfl (.k 35 rfl (.k 36 rfl (.k 37 rfl (.k 38 rfl (.k 39 rfl (.k 40 rfl (.k 41 rfl (.k 42 rfl (.k 43 rfl .nil))))))))))))))))))))))))))))))) ?_
    refine .appendGK (fk := zc) (u := (false, [])) zc_len (by decide) (fun _ => inferInstance) sl22 ty30 zero30 (fun _ _ => ⟨rfl, nilM _ _, trivial⟩) by30 (.t rfl) (i := 0) rfl (.t rfl) (by rw [tabR_len, List.length_singleton]; omega) (by simp) rfl fun gr1 => ?_
    refine .memEq (M' := [grMK _ _ _, _, _, _]) rfl ?_
    refine st (.fieldAddr (.t rfl) fld24_2 ty22) rfl ?_
    refine .store (.t rfl) (.t rfl) (i := 1) rfl ty22 rfl rfl (Ss' := [_, _, _]) rfl (M' := [_, (some _, cellM [_, _, _]), _, _]) rfl ?_
    refine nl ?_
    refine .bln ?_
    refine .thn (k13 _ _ ?_)
    refine .region (st (.mv (.t rfl)) rfl ?_)
    refine st (.addI (.t rfl) (Has.cI 1 rfl) (by first | omega | assumption) (by first | omega | assumption)) rfl ?_
    refine st (.as (.t rfl)) rfl ?_
    refine nl ?_
    refine .thn ?_
    refine hK10 (⟨(c + 1, by first | exact gr1 | exact g2), by show c + 1 ≤ C; omega⟩) _ _ ?_ (Cv.mem (.cons (t := 9) (Has.t' rfl ?_) (.k 1 rfl (.k 2 rfl (.k 3 rfl (.k 6 rfl (.k 7 rfl (.k 8 rfl (.k 17 rfl (.k 18 rfl (.k 19 rfl (.k 20 rfl .nil))))))))))) ?_)
    ·show C - (c + 1) < C - c; omega
    ·exact isI_eq (by omega)
    ·first | exact grR_eq (by rw [tabR_len, tabR_len, hwn]; rfl) (by rw [← wo_app hr hc (by omega) hk]) | exact grR_eq (by rw [woN_off hno]) (by rw [woN_off hno])
   ·have hc3 := BP.f hc3
    have hno : ¬ (r ≠ i ∧ c ≠ k) := (by omega)
    refine .skip ?_
    refine .bln ?_
    refine .thn (k13 _ _ ?_)
    refine .region (st (.mv (.t rfl)) rfl ?_)
    refine st (.addI (.t rfl) (Has.cI 1 rfl) (by first | omega | assumption) (by first | omega | assumption)) rfl ?_
    refine st (.as (.t rfl)) rfl ?_
    refine nl ?_
    refine .thn ?_
    refine hK10 (⟨(c + 1, by first | exact gr1 | exact g2), by show c + 1 ≤ C; omega⟩) _ _ ?_ (Cv.mem (.cons (t := 9) (Has.t' rfl ?_) (.k 1 rfl (.k 2 rfl (.k 3 rfl (.k 6 rfl (.k 7 rfl (.k 8 rfl (.k 17 rfl (.k 18 rfl (.k 19 rfl (.k 20 rfl .nil))))))))))) ?_)
    ·show C - (c + 1) < C - c; omega
    ·exact isI_eq (by omega)
    ·first | exact grR_eq (by rw [tabR_len, tabR_len, hwn]; rfl) (by rw [← wo_app hr hc (by omega) hk]) | exact grR_eq (by rw [woN_off hno]) (by rw [woN_off hno])
  ·have hc2 := BP.f hc2
   refine .exit ?_
   refine .the ?_
   refine .the ?_
   refine .blh ?_
   refine .bln ?_
   refine .thn (k8 _ _ ?_)
   refine .region (st (.mv (.t rfl)) rfl ?_)
   refine st (.addI (.t rfl) (Has.cI 1 rfl) (by first | omega | assumption) (by first | omega | assumption)) rfl ?_
   refine st (.as (.t rfl)) rfl ?_
   refine nl ?_
   refine .thn ?_
   have hkC : c = C := by omega
   subst hkC
   refine hK5 (⟨(r + 1, g2), by show r + 1 ≤ R; omega⟩) _ _ ?_ (Cv.mem (.cons (t := 8) (Has.t' rfl ?_) (.k 1 rfl (.k 2 rfl (.k 3 rfl (.k 6 rfl (.k 7 rfl .nil)))))) ?_)
   ·show R - (r + 1) < R - r; omega
   ·exact isI_eq (by omega)
   ·exact grR_eq (by rw [woN_next hk]) (by rw [woN_next hk])
 ·have hc1 := BP.f hc1
  refine .exit ?_
  refine .the ?_
  refine .the ?_
  refine .blh ?_
  refine .thn (k3 _ _ ?_)
  refine .cv (Cv.wk (.k 6 rfl (.k 7 rfl .nil))) ?_
  refine .seq fun _ k15 => ?_
  refine .cv (Cv.freezeF (k := 2) (i := 0) (j := 0) (o := 2) rfl rfl rfl rfl (gr_lenK zc_len) (gr_takeK zc_len) (Ss' := [_, _, SlK 2 zc (tabR (woN C i k r 0) (C - 1) (woG C i k xs))]) rfl) ?_
  refine .memEq (M' := [(some _, cellM [_, _, SlK 2 zc (tabR (woN C i k r 0) (C - 1) (woG C i k xs))]), _, _]) rfl ?_
  refine .cv (Cv.wk (.k 6 rfl (.k 7 rfl .nil))) ?_
  refine .region (st (.load (.t rfl) (i := 0) rfl ty24 rfl (Ss' := [_, _, _]) rfl) rfl ?_)
  refine .store (.t rfl) (.t rfl) (i := 1) rfl ty24 rfl rfl (Ss' := [_, _, _]) rfl (M' := [_, (some _, cellM [_, _, _]), _]) rfl ?_
  refine nl (.thn (k15 _ _ ?_))
  refine .ret ?_
  refine rt1 (.inl rfl) Try.results73 rfl (.cell rfl (i := 1) rfl ty24 rfl ?_ .nil)
  all_goals (rw [show r = R by omega, woN_all hi]; rfl)
theorem ref12_DetStep {n K : Nat} {xs : List (Bool × List Nat)} (hx : Bd (vals xs) K) (hK : K ≤ 10000000) (hR : n + 1 ≤ 64) (hl : xs.length = (n + 1) * (n + 1)) (ih : ∀ ys : List (Bool × List Nat), Bd (vals ys) K → ys.length = n * n → Ctr Try.prog 36 [isM (n : Int) (n : Int) ys] (isZ (det n (mf n (vals ys))))) : Ctr Try.prog 36 [isM ((n + 1 : Nat) : Int) ((n + 1 : Nat) : Int) xs] (isZ (det (n + 1) (mf (n + 1) (vals xs)))) := by
 refine Ctr.intro Try.func36 rfl (by kernel_rfl) Try.ntmps36 rfl fun w0 F0 => ?_
 refine .cv (Cv.wk (.k 0 rfl .nil)) ?_
 have hRC := side_le hR hR
 obtain ⟨A, hA⟩ : ∃ A, A = mf (n + 1) (vals xs) := ⟨_, rfl⟩
 have hAb : ∀ i j, (List.length (words (A i j).natAbs)) ≤ K := by rw [hA]; exact mf_bd hx
 have hnk : n * (K + n) ≤ 63 * (10000000 + 63) := Nat.mul_le_mul (by omega) (by omega)
 rw [← hA]
 refine .seq fun _ k1 => .region (.box (.t rfl) rfl fun b1 => ?_)
 refine .alloc [isB false, SlM isU []] zero30 (fun _ _ => ⟨rfl, nilM _ _, trivial⟩) rfl fun b2 => ?_
 refine nl (.thn (k1 _ _ ?_))
 refine .seq fun _ k2 => ?_
 refine .seq fun _ k3 => .region (st (.fieldAddr (.t rfl) fld24_0 ty3) rfl ?_)
 refine st (.load1 (.t rfl) (i := 1) rfl ty3 rfl) rfl (st (.eqI (.t rfl) (Has.cI 0 rfl)) rfl ?_)
 refine nl (.thn (k3 _ _ ?_))
 refine .cond (.t rfl) (fun hc1 => ?_) (fun hc1 => ?_)
 ·have hc1 := BP.t hc1
  omega
 ·have hc1 := BP.f hc1
  skip
  refine .skip ?_
  refine .thn (k2 _ _ ?_)
  refine .seq fun _ k4 => .region (st (.call (zint_Of) (.cons (Has.cI 0 rfl) .nil)) rfl ?_)
  refine .alloc [isB false, SlM isU []] zero30 (fun _ _ => ⟨rfl, nilM _ _, trivial⟩) rfl fun b3 => ?_
  refine .store (.t rfl) (.t rfl) (i := 0) rfl ty30 rfl rfl (Ss' := [_, _]) rfl (M' := [(some _, cellM [_, _]), _, _]) rfl ?_
  refine nl (.thn (k4 _ _ ?_))
  refine .cv (Cv.wk (.k 1 rfl (.k 2 rfl (.k 3 rfl .nil)))) ?_
  refine .seq fun _ k5 => ?_
  refine .seq fun _ k6 => .region (st (.as (Has.cI 0 rfl)) rfl ?_)
  refine nl (.thn (k6 _ _ ?_))
  refine .block ?_
  refine .loopF [1, 2, 3] (fun (z : { k : Nat // k ≤ n + 1 }) => match z with | ⟨k, hk⟩ => [(4, isI (k : Int))]) (fun M => fun (z : { k : Nat // k ≤ n + 1 }) => match z with | ⟨k, hk⟩ => [zM b3 (sm k (dtT n A)), (some b2, cellM [isB false, SlM isU []]), (some b1, cellM [isI ((n + 1 : Nat) : Int), isI ((n + 1 : Nat) : Int), SlK 2 zc xs])]) (fun (z : { k : Nat // k ≤ n + 1 }) => match z with | ⟨k, hk⟩ => n + 1 - k) (⟨0, Nat.zero_le _⟩) (Cv.mem (.cons (t := 4) (Has.t' rfl ?_) (.k 1 rfl (.k 2 rfl (.k 3 rfl .nil)))) ?_) ?_
  ·rfl
  ·rfl
  rintro ⟨k, hk⟩ K7 hK7
  refine .cv (Cv.wk (.k 4 rfl (.k 1 rfl (.k 2 rfl (.k 3 rfl .nil))))) ?_
  refine .memEq (M' := [zM b3 (sm k (dtT n A)), (some b2, cellM [isB false, SlM isU []]), (some b1, cellM [isI ((n + 1 : Nat) : Int), isI ((n + 1 : Nat) : Int), SlK 2 zc xs])]) rfl ?_
  refine .seq fun _ k8 => ?_
  refine .seq fun _ k9 => .region (st (.mv (.t rfl)) rfl ?_)
  refine st (.fieldAddr (.t rfl) fld24_1 ty3) rfl (st (.load1 (.t rfl) (i := 2) rfl ty3 rfl) rfl ?_)
  refine st (.ltI (.t rfl) (.t rfl)) rfl ?_
  refine nl (.thn (k9 _ _ ?_))
  refine .cond (.t rfl) (fun hc2 => ?_) (fun hc2 => ?_)
  ·have hc2 := BP.t hc2
   have hpl := place_lt (show 0 < n + 1 by omega) (show k < n + 1 by omega)
   have hxr := hx.raw (0 * (n + 1) + k)
   have hA0 : A 0 k = cf (vals xs) (0 * (n + 1) + k) := by rw [hA]; rfl
   obtain ⟨d, hd⟩ : ∃ d, d = det n fun i j => A (i + 1) (skip k j) := ⟨_, rfl⟩
   have hdw : (List.length (words d.natAbs)) ≤ n * (K + n) + 1 := by rw [hd]; exact det_nw (fun _ _ => hAb _ _) n
   have htw := dtT_nw hAb n k
   have hsw := sm_nw (dtT_nw hAb n) k
   have hmw := nz_mul (A 0 k) d
   have haw := hAb 0 k
   have hng : (List.length (words (-(A 0 k * d)).natAbs)) = (List.length (words (A 0 k * d).natAbs)) := by rw [Int.natAbs_neg]
   have htd : dtT n A k = sg k * (A 0 k * d) := by rw [hd]; rfl
   refine .skip ?_
   refine .thn (k8 _ _ ?_)
   refine .seq fun _ k10 => ?_
   refine .block ?_
   refine .seq fun _ k11 => ?_
   refine .drh [true, true, true] (Ms := [_, _, _]) rfl ?_
   refine .s [] rfl rfl rfl (.o rfl (.load (.t rfl) (i := 2) rfl ty24 rfl (Ss' := [_, _, _]) rfl)) ?_
   refine .s [] rfl rfl rfl (.o rfl (.mv (.t rfl))) ?_
   refine .s [17, 18] rfl rfl rfl (.o rfl (.call (ref11_At (i := 0) (k := k) (by omega) (by omega)) (.cons (.t rfl) (.cons (Has.cI 0 rfl) (.cons (.t rfl) .nil))))) ?_
   refine .s [] rfl rfl rfl (.o rfl (.load (.t rfl) (i := 2) rfl ty24 rfl (Ss' := [_, _, _]) rfl)) ?_
   refine .s [] rfl rfl rfl (.o rfl (.mv (.t rfl))) ?_
   refine .s [20, 21] rfl rfl rfl (.o rfl (.eq (.call (ref12_Without (i := 0) (k := k) hR hR hl (by omega) (by omega)) (.cons (.t rfl) (.cons (Has.cI 0 rfl) (.cons (.t rfl) .nil)))) ((show isM _ _ _ = isM (n : Int) (n : Int) (wo (n + 1) (n + 1) 0 k xs) from by rw [show ((n + 1 : Nat) : Int) - 1 = (n : Int) by omega])))) ?_
   refine .s [22] rfl rfl rfl (.o rfl (.eq (.call (ih (wo (n + 1) (n + 1) 0 k xs) (wo_bd hx) (wo_len _ _ _ _ _)) (.cons (.t rfl) .nil)) ((show isZ _ = isZ d from isZ_eq (by rw [hd, hA]; exact det_wo))))) ?_
   refine .s [19, 23] rfl rfl rfl (.o rfl (.eq (.call (zint_Mul (by omega) (by rw [val_words]; omega)) (.cons (.t rfl) (.cons (.t rfl) .nil))) ((show isZ _ = isZ (A 0 k * d) from isZ_eq (by rw [zv_nf, hA0, cf_vals]))))) ?_
   refine .als (n1 := 9) (ds := [5]) (zs := [[isB false, SlM isU []]]) rfl (.cons rfl rfl zero30 (fun _ _ => ⟨rfl, nilM _ _, trivial⟩) .nil) (.cons_cons _ (.cons_cons _ (.cons_cons _ .slnil))) (Cs := [_]) rfl ?_
   refine .fin (n := 9) mixed rfl (by kernel_rfl) (by kernel_rfl) (by kernel_rfl) (fun bs hbs => ?_)
   obtain ⟨b4, rfl⟩ := len1 hbs
   refine .memEq (M' := [_, _, _, _]) rfl ?_
   refine .cv (Cv.wk (.k 1 rfl (.k 2 rfl (.k 3 rfl (.k 4 rfl (.k 11 rfl (.k 12 rfl (.k 13 rfl (.k 14 rfl (.k 17 rfl (.k 18 rfl (.k 19 rfl (.k 20 rfl (.k 21 rfl (.k 22 rfl (.k 23 rfl (.k 24 rfl (.cons (t := 5) (Has.op rfl) .nil)))))))))))))))))) ?_
   refine .store (.t rfl) (.t rfl) (i := 0) rfl ty30 rfl rfl (Ss' := [_, _]) rfl (M' := [(some _, cellM [_, _]), _, _, _]) rfl ?_
   refine nl (.thn (k11 _ _ ?_))
   refine .seq fun _ k12 => ?_
   refine .seq fun _ k13 => .region (st (.mv (.t rfl)) rfl ?_)
   refine st (.remI (.t rfl) (Has.cI 2 rfl) (by first | omega | assumption) (by first | omega | assumption) (by first | omega | assumption)) rfl ?_
   refine st (.eqI (.t rfl) (Has.cI 1 rfl)) rfl ?_
   refine nl (.thn (k13 _ _ ?_))
   refine .cond (.t rfl) (fun hc3 => ?_) (fun hc3 => ?_)
   ·have hc3 := BP.t hc3
    have hsg : sg k = -1 := if_pos (by omega)
    refine .region (st (.load (.t rfl) (i := 0) rfl ty30 rfl (Ss' := [_, _]) rfl) rfl ?_)
    refine st (.eq (.call (zint_Neg (by rw [val_words]; omega)) (.cons (.t rfl) .nil)) ((show isZ _ = isZ (-(A 0 k * d)) from isZ_eq (by rw [zv_nf])))) rfl ?_
    refine .store (.t rfl) (.t rfl) (i := 0) rfl ty30 rfl rfl (Ss' := [_, _]) rfl (M' := [(some _, cellM [_, _]), _, _, _]) rfl ?_
    refine nl (.thn (k12 _ _ ?_))
    refine .region (st (.load (.t rfl) (i := 1) rfl ty30 rfl (Ss' := [_, _]) rfl) rfl ?_)
    refine st (.load (.t rfl) (i := 0) rfl ty30 rfl (Ss' := [_, _]) rfl) rfl (st (.eq (.call (zint_Add (by rw [val_words]; omega) (by rw [val_words]; omega)) (.cons (.t rfl) (.cons (.t rfl) .nil))) ((show isZ _ = isZ (sm (k + 1) (dtT n A)) from isZ_eq (by simp only [zv_nf]; exact congrArg _ (by rw [htd, hsg]; omega))))) rfl ?_)
    refine .store (.t rfl) (.t rfl) (i := 1) rfl ty30 rfl rfl (Ss' := [_, _]) rfl (M' := [_, (some _, cellM [_, _]), _, _]) rfl ?_
    refine nl ?_
    refine .bln ?_
    refine .thn (k10 _ _ ?_)
    refine .region (st (.mv (.t rfl)) rfl ?_)
    refine st (.addI (.t rfl) (Has.cI 1 rfl) (by first | omega | assumption) (by first | omega | assumption)) rfl ?_
    refine st (.as (.t rfl)) rfl ?_
    refine nl ?_
    refine .thn ?_
    refine hK7 (⟨k + 1, by omega⟩) _ _ ?_ (Cv.trans (Cv.drop ((.cons _ (.cons_cons _ (.cons_cons _ (.cons_cons _ .slnil)))))) (Cv.mem (.cons (t := 4) (Has.t' rfl ?_) (.k 1 rfl (.k 2 rfl (.k 3 rfl .nil)))) ?_))
    ·show n + 1 - (k + 1) < n + 1 - k; omega
    ·exact isI_eq (by omega)
    ·rfl
   ·have hc3 := BP.f hc3
    have hsg : sg k = 1 := if_neg (by omega)
    refine .skip ?_
    refine .thn (k12 _ _ ?_)
    refine .region (st (.load (.t rfl) (i := 1) rfl ty30 rfl (Ss' := [_, _]) rfl) rfl ?_)
    refine st (.load (.t rfl) (i := 0) rfl ty30 rfl (Ss' := [_, _]) rfl) rfl (st (.eq (.call (zint_Add (by rw [val_words]; omega) (by rw [val_words]; omega)) (.cons (.t rfl) (.cons (.t rfl) .nil))) ((show isZ _ = isZ (sm (k + 1) (dtT n A)) from isZ_eq (by simp only [zv_nf]; exact congrArg _ (by rw [htd, hsg]; omega))))) rfl ?_)
    refine .store (.t rfl) (.t rfl) (i := 1) rfl ty30 rfl rfl (Ss' := [_, _]) rfl (M' := [_, (some _, cellM [_, _]), _, _]) rfl ?_
    refine nl ?_
    refine .bln ?_
    refine .thn (k10 _ _ ?_)
    refine .region (st (.mv (.t rfl)) rfl ?_)
    refine st (.addI (.t rfl) (Has.cI 1 rfl) (by first | omega | assumption) (by first | omega | assumption)) rfl ?_
    refine st (.as (.t rfl)) rfl ?_
    refine nl ?_
    refine .thn ?_
    refine hK7 (⟨k + 1, by omega⟩) _ _ ?_ (Cv.trans (Cv.drop ((.cons _ (.cons_cons _ (.cons_cons _ (.cons_cons _ .slnil)))))) (Cv.mem (.cons (t := 4) (Has.t' rfl ?_) (.k 1 rfl (.k 2 rfl (.k 3 rfl .nil)))) ?_))
    ·show n + 1 - (k + 1) < n + 1 - k; omega
    ·exact isI_eq (by omega)
    ·rfl
  ·have hc2 := BP.f hc2
   refine .exit ?_
   refine .the ?_
   refine .the ?_
   refine .blh ?_
   refine .thn (k5 _ _ ?_)
   refine .cv (Cv.wk (.k 2 rfl (.k 3 rfl .nil))) ?_
   refine .seq fun _ k14 => .region (st (.load (.t rfl) (i := 0) rfl ty30 rfl (Ss' := [_, _]) rfl) rfl ?_)
   refine .store (.t rfl) (.t rfl) (i := 1) rfl ty30 rfl rfl (Ss' := [_, _]) rfl (M' := [_, (some _, cellM [_, _]), _]) rfl ?_
   refine nl (.thn (k14 _ _ ?_))
   refine .ret ?_
   refine rt1 (.inl rfl) Try.results36 rfl (.cell rfl (i := 1) rfl ty30 rfl ?_ .nil)
   all_goals (exact isZ_eq (by rw [show k = n + 1 by omega]; rfl))
theorem ref12_DetZ {xs : List (Bool × List Nat)} : Ctr Try.prog 36 [isM 0 0 xs] (isZ 1) := by
 refine Ctr.intro Try.func36 rfl (by kernel_rfl) Try.ntmps36 rfl fun w0 F0 => ?_
 refine .cv (Cv.wk (.k 0 rfl .nil)) ?_
 refine .seq fun _ k1 => .region (.box (.t rfl) rfl fun b1 => ?_)
 refine .alloc [isB false, SlM isU []] zero30 (fun _ _ => ⟨rfl, nilM _ _, trivial⟩) rfl fun b2 => ?_
 refine nl (.thn (k1 _ _ ?_))
 refine .seq fun _ k2 => ?_
 refine .seq fun _ k3 => .region (st (.fieldAddr (.t rfl) fld24_0 ty3) rfl ?_)
 refine st (.load1 (.t rfl) (i := 1) rfl ty3 rfl) rfl (st (.eqI (.t rfl) (Has.cI 0 rfl)) rfl ?_)
 refine nl (.thn (k3 _ _ ?_))
 refine .cond (.t rfl) (fun hc1 => ?_) (fun hc1 => ?_)
 ·have hc1 := BP.t hc1
  refine .seq fun _ k4 => .region (st (.call (zint_Of) (.cons (Has.cI 1 rfl) .nil)) rfl ?_)
  refine .store (.t rfl) (.t rfl) (i := 0) rfl ty30 rfl rfl (Ss' := [_, _]) rfl (M' := [(some _, cellM [_, _]), _]) rfl ?_
  refine nl (.thn (k4 _ _ ?_))
  refine .cv (Cv.wk (.k 1 rfl (.k 2 rfl .nil))) ?_
  refine .ret ?_
  refine .thr ?_
  refine rt1 (.inl rfl) Try.results36 rfl (.cell rfl (i := 0) rfl ty30 rfl ?_ .nil)
  all_goals (rfl)
 ·have hc1 := BP.f hc1
  exact absurd rfl hc1
theorem ref12_Det {n K : Nat} {xs : List (Bool × List Nat)} (hx : Bd (vals xs) K) (hK : K ≤ 10000000) (hR : n ≤ 64) (hl : xs.length = n * n) : Ctr Try.prog 36 [isM (n : Int) (n : Int) xs] (isZ (det n (mf n (vals xs)))) := by
 induction n generalizing xs with
 | zero => exact ref12_DetZ
 | succ n ih => exact ref12_DetStep hx hK hR hl fun ys hy hyl => ih hy (by omega) hyl
theorem ref12_Choices0 {m : Int} : Ctr Try.prog 34 [isI m, isI 0] (SlM isLn (choices 0 0)) := by
 refine Ctr.intro Try.func34 rfl (by kernel_rfl) Try.ntmps34 rfl fun w0 F0 => ?_
 refine .cv (Cv.wk (.k 0 rfl (.k 1 rfl .nil))) ?_
 refine .fact (Has.rngI (Has.t (t := 0) rfl)) fun lt0 => ?_
 refine .fact (Has.rngI (Has.t (t := 1) rfl)) fun lt1 => ?_
 refine .seq fun _ k1 => .region (st (.as (Has.cW (f := isI))) rfl ?_)
 refine nl (.thn (k1 _ _ ?_))
 refine .seq fun _ k2 => ?_
 refine .seq fun _ k3 => .region (st (.mv (.t rfl)) rfl ?_)
 refine st (.eqI (.t rfl) (Has.cI 0 rfl)) rfl ?_
 refine nl (.thn (k3 _ _ ?_))
 refine .cond (.t rfl) (fun hc1 => ?_) (fun hc1 => ?_)
 ·have hc1 := BP.t hc1
  refine .seq fun _ k4 => .region (st (.buildS [nilS] sl69 ty63 zero63 (fun _ _ => ⟨rfl, trivial⟩) rfl rfl (.cons (Has.cW (f := isI)) rfl rfl rfl .nil) rfl (S := SlM isLn [[]]) rfl) rfl ?_)
  refine st (.as (.t rfl)) rfl ?_
  refine nl (.thn (k4 _ _ ?_))
  refine .ret ?_
  refine .thr ?_
  refine rt1 (.inl rfl) Try.results34 rfl (.tmp (Has.t' rfl ?_) .nil)
  all_goals (rfl)
 ·have hc1 := BP.f hc1
  exact absurd rfl hc1
theorem ref12_ChoicesN {m n : Nat} (hm : m < n + 1) (hb : n ≤ 64) : CtrX Try.prog 34 [isI (m : Int), isI ((n + 1 : Nat) : Int)] ([]) (fun S M => ∃ gr : Gr (List Nat), S = isGr gr (choices (m) (n + 1)).length ∧ M = [grM isLn gr (choices (m) (n + 1))]) := by
 refine CtrX.intro Try.func34 rfl (by kernel_rfl) Try.ntmps34 rfl fun w0 F0 => ?_
 refine .cv (Cv.wk (.k 0 rfl (.k 1 rfl .nil))) ?_
 refine .fact (Has.rngI (Has.t (t := 0) rfl)) fun lt0 => ?_
 refine .fact (Has.rngI (Has.t (t := 1) rfl)) fun lt1 => ?_
 refine .seq fun _ k1 => .region (st (.as (Has.cW (f := fun l => isWords l))) rfl ?_)
 refine nl (.thn (k1 _ _ ?_))
 refine .seq fun _ k2 => ?_
 refine .seq fun _ k3 => .region (st (.mv (.t rfl)) rfl ?_)
 refine st (.eqI (.t rfl) (Has.cI 0 rfl)) rfl ?_
 refine nl (.thn (k3 _ _ ?_))
 refine .cond (.t rfl) (fun hc1 => ?_) (fun hc1 => ?_)
 ·have hc1 := BP.t hc1
  exfalso; omega
 ·have hc1 := BP.f hc1
  refine .skip ?_
  refine .thn (k2 _ _ ?_)
  refine .seq fun _ k4 => ?_
  refine .seq fun _ k5 => .region (st (.mv (.t rfl)) rfl ?_)
  refine st (.mv (.t rfl)) rfl (st (.ltI (.t rfl) (.t rfl)) rfl ?_)
  refine nl (.thn (k5 _ _ ?_))
  refine .cond (.t rfl) (fun hc2 => ?_) (fun hc2 => ?_)
  ·have hc2 := BP.t hc2
   refine .seq fun _ k6 => .region (.cv (Cv.grow0 (α := List Nat) isLn) ?_)
   refine st (.as (Has.cGr (α := List Nat))) rfl ?_
   refine nl (.thn (k6 _ _ ?_))
   refine .cv (Cv.wk (.k 0 rfl (.k 1 rfl (.k 4 rfl .nil)))) ?_
   refine .ret ?_
   refine .thr ?_
   refine rtX1 (.inl rfl) Try.results34 rfl (.tmp (.t rfl) .nil) ?_
   exact ⟨Gr.nil, by rw [choices_nil hm]; rfl, by rw [choices_nil hm]⟩
  ·have hc2 := BP.f hc2
   exfalso; omega
theorem ref12_ChoicesS {m n : Nat} (hm : n ≤ m) (hb : m ≤ 16) (ihO : CtrX Try.prog 34 [isI (m : Int), isI ((n + 1 : Nat) : Int)] [] (fun S M => ∃ gr : Gr (List Nat), S = isGr gr (choices (m) (n + 1)).length ∧ M = [grM isLn gr (choices (m) (n + 1))])) (ihL : Ctr Try.prog 34 [isI (m : Int), isI (n : Int)] (SlM isLn (choices m n))) : CtrX Try.prog 34 [isI ((m + 1 : Nat) : Int), isI ((n + 1 : Nat) : Int)] ([]) (fun S M => ∃ gr : Gr (List Nat), S = isGr gr (choices (m + 1) (n + 1)).length ∧ M = [grM isLn gr (choices (m + 1) (n + 1))]) := by
 refine CtrX.intro Try.func34 rfl (by kernel_rfl) Try.ntmps34 rfl fun w0 F0 => ?_
 refine .cv (Cv.wk (.k 0 rfl (.k 1 rfl .nil))) ?_
 refine .fact (Has.rngI (Has.t (t := 0) rfl)) fun lt0 => ?_
 refine .fact (Has.rngI (Has.t (t := 1) rfl)) fun lt1 => ?_
 have hlu := chU_len m n
 have hcl := choices_len m n
 have h2m := Nat.pow_le_pow_right (show 0 < 2 by decide) hb
 refine .seq fun _ k1 => .region (st (.as (Has.cW (f := fun l => isWords l))) rfl ?_)
 refine nl (.thn (k1 _ _ ?_))
 refine .seq fun _ k2 => ?_
 refine .seq fun _ k3 => .region (st (.mv (.t rfl)) rfl ?_)
 refine st (.eqI (.t rfl) (Has.cI 0 rfl)) rfl ?_
 refine nl (.thn (k3 _ _ ?_))
 refine .cond (.t rfl) (fun hc1 => ?_) (fun hc1 => ?_)
 ·have hc1 := BP.t hc1
  exfalso; omega
 ·have hc1 := BP.f hc1
  refine .skip ?_
  refine .thn (k2 _ _ ?_)
  refine .seq fun _ k4 => ?_
  refine .seq fun _ k5 => .region (st (.mv (.t rfl)) rfl ?_)
  refine st (.mv (.t rfl)) rfl (st (.ltI (.t rfl) (.t rfl)) rfl ?_)
  refine nl (.thn (k5 _ _ ?_))
  refine .cond (.t rfl) (fun hc2 => ?_) (fun hc2 => ?_)
  ·have hc2 := BP.t hc2
   exfalso; omega
  ·have hc2 := BP.f hc2
   refine .skip ?_
   refine .thn (k4 _ _ ?_)
   refine .cv (Cv.wk (.k 0 rfl (.k 1 rfl (.k 4 rfl .nil)))) ?_
   refine .seq fun _ k6 => .region (st (.mv (.t rfl)) rfl ?_)
   refine st (.eq (.subI (.t rfl) (Has.cI 1 rfl) (by first | omega | assumption) (by first | omega | assumption)) ((show isI _ = isI (m : Int) from isI_eq (by omega)))) rfl ?_
   refine st (.mv (.t rfl)) rfl ?_
   refine .callX ihO (List.Perm.refl _) (.cons (.t rfl) (.cons (.t rfl) .nil)) rfl ?_
   rintro _ _ ⟨g0, rfl, rfl⟩
   refine .memEq (M' := [grM isLn g0 (choices m (n + 1))]) (List.append_nil _) ?_
   refine st (.as (.t rfl)) rfl ?_
   refine nl (.thn (k6 _ _ ?_))
   refine .seq fun _ k7 => .region (st (.mv (.t rfl)) rfl ?_)
   refine st (.eq (.subI (.t rfl) (Has.cI 1 rfl) (by first | omega | assumption) (by first | omega | assumption)) ((show isI _ = isI (m : Int) from isI_eq (by omega)))) rfl ?_
   refine st (.mv (.t rfl)) rfl (st (.eq (.subI (.t rfl) (Has.cI 1 rfl) (by first | omega | assumption) (by first | omega | assumption)) ((show isI _ = isI (n : Int) from isI_eq (by omega)))) rfl ?_)
   refine st (.call ihL (.cons (.t rfl) (.cons (.t rfl) .nil))) rfl ?_
   refine st (.as (.t rfl)) rfl ?_
   refine nl (.thn (k7 _ _ ?_))
   refine .cv (Cv.wk (.k 0 rfl (.k 4 rfl (.k 5 rfl (.k 6 rfl .nil))))) ?_
   refine .seq fun _ k8 => ?_
   refine .seq fun _ k9 => .region (st (.as (Has.cI 0 rfl)) rfl ?_)
   refine nl (.thn (k9 _ _ ?_))
   refine .block ?_
   refine .loopF [0, 4, 6] (fun (z : { z : Nat × Gr (List Nat) // z.1 ≤ (choices m n).length }) => match z with | ⟨(i, g), hI⟩ => [(7, isI (i : Int)), (5, isGr g (chU m n i).length)]) (fun M => fun (z : { z : Nat × Gr (List Nat) // z.1 ≤ (choices m n).length }) => match z with | ⟨(i, g), hI⟩ => [grM isLn g (chU m n i)]) (fun (z : { z : Nat × Gr (List Nat) // z.1 ≤ (choices m n).length }) => match z with | ⟨(i, g), hI⟩ => (choices m n).length - i) (⟨(0, g0), Nat.zero_le _⟩) (Cv.mem (.cons (t := 7) (Has.t' rfl ?_) (.cons (t := 5) (Has.t' rfl ?_) (.k 0 rfl (.k 4 rfl (.k 6 rfl .nil))))) ?_) ?_
   ·rfl
   ·exact isGr_eq (by rw [chU_zero])
   ·exact grM_eq (chU_zero _ _).symm
   rintro ⟨⟨i, g⟩, hI⟩ K10 hK10
   refine .cv (Cv.wk (.k 7 rfl (.k 5 rfl (.k 0 rfl (.k 4 rfl (.k 6 rfl .nil)))))) ?_
   refine .memEq (M' := [grM isLn g (chU m n i)]) rfl ?_
   simp only [] at hI
   refine .seq fun _ k11 => ?_
   refine .seq fun _ k12 => .region (st (.mv (.t rfl)) rfl ?_)
   refine st (.mv (.t rfl)) rfl (st (.len sl69 (.t rfl)) rfl ?_)
   refine st (.ltI (.t rfl) (.t rfl)) rfl ?_
   refine nl (.thn (k12 _ _ ?_))
   refine .cond (.t rfl) (fun hc3 => ?_) (fun hc3 => ?_)
   ·have hc3 := BP.t hc3
    obtain ⟨Y, hY⟩ : ∃ Y, (choices m n)[i]? = some Y := ⟨_, List.getElem?_eq_getElem (by omega)⟩
    have hYl := (choices_spec m n Y (List.mem_of_getElem? hY)).1
    have hpY := pv_len Y
    have hlui := hlu i
    refine .skip ?_
    refine .thn (k11 _ _ ?_)
    refine .seq fun _ k13 => ?_
    refine .block ?_
    refine .seq fun _ k14 => .region (.cv (Cv.grow0 (α := Int) isI) ?_)
    refine st (.as (Has.cGr (α := Int))) rfl ?_
    refine nl (.thn (k14 _ _ ?_))
    refine .seq fun _ k15 => .region (st (.mv (.t rfl)) rfl ?_)
    refine st (.mv (.t rfl)) rfl (st (.mv (.t rfl)) rfl ?_)
    refine st (.ixP sl69 ty63 (.t rfl) (.t rfl) ⟨by omega, by omega⟩ hY) rfl ?_
    refine st (.loadP1 (.t rfl) ty63) rfl ?_
    refine .appendG0 (f := isI) (u := 0) sl63 ty3 zero3 (fun _ _ => ⟨⟨rfl, by decide, by decide⟩, trivial⟩) (fun _ => inferInstance) by3 (.t rfl) (i := 0) rfl (.t rfl) (by simp only [List.length_nil]; omega) rfl fun gr1 => ?_
    refine .memEq (M' := [grM _ _ _, _]) rfl ?_
    refine st (.as (.t rfl)) rfl ?_
    refine nl (.thn (k15 _ _ ?_))
    refine .seq fun _ k16 => .region (st (.mv (.t rfl)) rfl ?_)
    refine st (.mv (.t rfl)) rfl (st (.eq (.subI (.t rfl) (Has.cI 1 rfl) (by first | omega | assumption) (by first | omega | assumption)) ((show isI _ = isI (m : Int) from isI_eq (by omega)))) rfl ?_)
    refine st (.buildS [isI 0] sl63 ty3 zero3 (fun _ _ => ⟨⟨rfl, by decide, by decide⟩, trivial⟩) rfl rfl (.cons (.t rfl) rfl rfl rfl .nil) rfl (S := SlM isI [(m : Int)]) rfl) rfl ?_
    refine .appendG (f := isI) (u := 0) sl63 ty3 zero3 (fun _ _ => ⟨⟨rfl, by decide, by decide⟩, trivial⟩) (fun _ => inferInstance) by3 (.t rfl) (i := 0) rfl (.t rfl) (by simp only [List.length_append, List.length_nil, List.length_cons]; omega) (by simp) rfl fun gr2 => ?_
    refine .memEq (M' := [grM _ _ _, _]) rfl ?_
    refine .cv (Cv.freezeGn (t := 40) (i := 0) (ys := pv Y ++ [(m : Int)]) rfl rfl rfl (by simp)) ?_
    refine .memEq (M' := [_]) rfl ?_
    refine .cv (Cv.wk (.k 0 rfl (.k 4 rfl (.k 6 rfl (.k 7 rfl (.k 5 rfl (.k 24 rfl (.k 25 rfl (.k 26 rfl (.k 27 rfl (.k 31 rfl (.k 32 rfl (.k 33 rfl (.k 34 rfl (.k 37 rfl (.k 38 rfl (.k 39 rfl (.k 40 rfl .nil)))))))))))))))))) ?_
    refine st (.as (.t rfl)) rfl ?_
    refine nl (.thn (k16 _ _ ?_))
    refine .region (st (.mv (.t rfl)) rfl ?_)
    refine st (.eq (.mv (.t rfl)) ((show _ = isLn (Y ++ [m]) from SlM_eq (pv_snoc _ _)))) rfl ?_
    refine st (.buildS [nilS] sl69 ty63 zero63 (fun _ _ => ⟨rfl, trivial⟩) rfl rfl (.cons (.t rfl) rfl rfl rfl .nil) rfl (S := SlM isLn [Y ++ [m]]) rfl) rfl ?_
    refine .appendG (f := isLn) (u := ([] : List Nat)) sl69 ty63 zero63 (fun _ _ => ⟨nilM _ _, trivial⟩) (fun _ => inferInstance) by63 (.t rfl) (i := 0) rfl (.t rfl) (by show (chU m n i).length + 1 ≤ _; omega) (by simp) rfl fun gr3 => ?_
    refine .memEq (M' := [grM _ _ _]) rfl ?_
    refine st (.as (.t rfl)) rfl ?_
    refine nl ?_
    refine .bln ?_
    refine .thn (k13 _ _ ?_)
    refine .region (st (.mv (.t rfl)) rfl ?_)
    refine st (.addI (.t rfl) (Has.cI 1 rfl) (by first | omega | assumption) (by first | omega | assumption)) rfl ?_
    refine st (.as (.t rfl)) rfl ?_
    refine nl ?_
    refine .thn ?_
    refine hK10 (⟨(i + 1, gr3), by show i + 1 ≤ _; omega⟩) _ _ ?_ (Cv.mem (.cons (t := 7) (Has.t' rfl ?_) (.cons (t := 5) (Has.t' rfl ?_) (.k 0 rfl (.k 4 rfl (.k 6 rfl .nil))))) ?_)
    ·show (choices m n).length - (i + 1) < (choices m n).length - i; omega
    ·exact isI_eq (by omega)
    ·exact isGr_eq (by rw [← chU_succ hY, List.length_append])
    ·exact grM_eq (chU_succ hY)
   ·have hc3 := BP.f hc3
    refine .exit ?_
    refine .the ?_
    refine .the ?_
    refine .blh ?_
    refine .thn (k8 _ _ ?_)
    refine .cv (Cv.wk (.k 4 rfl (.k 5 rfl .nil))) ?_
    refine .seq fun _ k17 => .region (st (.mv (.t rfl)) rfl ?_)
    refine st (.as (.t rfl)) rfl ?_
    refine nl (.thn (k17 _ _ ?_))
    refine .ret ?_
    refine rtX1 (.inl rfl) Try.results34 rfl (.tmp (.t rfl) .nil) ?_
    exact ⟨g, by rw [chU_all hm (by omega)], by rw [chU_all hm (by omega)]⟩
theorem ref12_ChoicesX : ∀ m : Nat, m ≤ 16 → ∀ n : Nat, n ≤ 64 → CtrX Try.prog 34 [isI (m : Int), isI ((n + 1 : Nat) : Int)] [] (fun S M => ∃ gr : Gr (List Nat), S = isGr gr (choices m (n + 1)).length ∧ M = [grM isLn gr (choices m (n + 1))])
  | 0, _, n, hn => ref12_ChoicesN (Nat.succ_pos _) hn
  | m + 1, hm, n, hn => by
    by_cases h : m + 1 < n + 1
    · exact ref12_ChoicesN h hn
    · refine ref12_ChoicesS (by omega) (by omega) (ref12_ChoicesX m (by omega) n hn) ?_
      cases n with
      | zero => rw [choices_zero]; exact ref12_Choices0
      | succ n => exact (ref12_ChoicesX m (by omega) n (by omega)).freeze
theorem ref12_Choices {m n : Nat} (hm : m ≤ 16) (hn : n ≤ 64) : Ctr Try.prog 34 [isI (m : Int), isI (n : Int)] (SlM isLn (choices m n)) := by
 cases n with
 | zero => rw [choices_zero]; exact ref12_Choices0
 | succ n => exact (ref12_ChoicesX m hm n (by omega)).freeze
theorem ref12_Part {R C : Nat} {xs : List (Bool × List Nat)} {rs cs : List Nat} (hR : R ≤ 64) (hC : C ≤ 64) (hl : xs.length = R * C) (hr : ∀ x ∈ rs, x < R) (hc : ∀ x ∈ cs, x < C) (hrl : rs.length ≤ 64) (hcl : cs.length ≤ 64) : Ctr Try.prog 37 [isM (R : Int) (C : Int) xs, isLn rs, isLn cs] (isM (rs.length : Int) (cs.length : Int) (tabR (rs.length * cs.length) cs.length (ptG C xs rs cs))) := by
 refine Ctr.intro Try.func37 rfl (by kernel_rfl) Try.ntmps37 rfl fun w0 F0 => ?_
 refine .cv (Cv.wk (.k 0 rfl (.k 1 rfl (.k 2 rfl .nil)))) ?_
 have hRC := side_le hR hC
 have hrc := side_le hrl hcl
 have hprs := pv_len rs
 have hpcs := pv_len cs
 refine .seq fun _ k1 => .region (.box (.t rfl) rfl fun b1 => ?_)
 refine .alloc [isI 0, isI 0, nilS] zero24 (fun _ _ => ⟨⟨rfl, by decide, by decide⟩, ⟨rfl, by decide, by decide⟩, rfl, trivial⟩) rfl fun b2 => ?_
 refine nl (.thn (k1 _ _ ?_))
 refine .seq fun _ k2 => .region (st (.mv (.t rfl)) rfl ?_)
 refine st (.eq (.len sl63 (.t rfl)) ((show isI _ = isI (rs.length : Int) from isI_eq (by rw [hprs])))) rfl ?_
 refine st (.mv (.t rfl)) rfl (st (.eq (.len sl63 (.t rfl)) ((show isI _ = isI (cs.length : Int) from isI_eq (by rw [hpcs])))) rfl ?_)
 refine st (.build [isI 0, isI 0, nilS] pl24 zero24 (fun _ _ => ⟨⟨rfl, by decide, by decide⟩, ⟨rfl, by decide, by decide⟩, rfl, trivial⟩) (.cons (.t rfl) rfl rfl rfl (.cons (.t rfl) rfl rfl rfl .nil)) (Z'' := [_, _, _]) rfl) rfl ?_
 refine .alloc [isI 0, isI 0, nilS] zero24 (fun _ _ => ⟨⟨rfl, by decide, by decide⟩, ⟨rfl, by decide, by decide⟩, rfl, trivial⟩) rfl fun b3 => ?_
 refine .store (.t rfl) (.t rfl) (i := 0) rfl ty24 rfl rfl (Ss' := [_, _, _]) rfl (M' := [(some _, cellM [_, _, _]), _, _]) rfl ?_
 refine nl (.thn (k2 _ _ ?_))
 refine .cv (Cv.wk (.k 1 rfl (.k 2 rfl (.k 3 rfl (.k 6 rfl (.k 7 rfl .nil)))))) ?_
 refine .seq fun _ k3 => ?_
 refine .seq fun _ k4 => ?_
 refine .cv (Cv.growF (Bool × List Nat) (i := 0) (o := 2) rfl rfl rfl) ?_
 refine .memEq (M' := [grMK zc Gr.nil [], _, _, _]) rfl ?_
 refine .region (st (.as (Has.cI 0 rfl)) rfl ?_)
 refine nl (.thn (k4 _ _ ?_))
 refine .block ?_
 refine .loopF [1, 2, 3, 6, 7] (fun (z : { z : Nat × Gr (Bool × List Nat) // z.1 ≤ rs.length }) => match z with | ⟨(i, g), hI⟩ => [(8, isI (i : Int))]) (fun M => fun (z : { z : Nat × Gr (Bool × List Nat) // z.1 ≤ rs.length }) => match z with | ⟨(i, g), hI⟩ => [grMK zc g (tabR (i * cs.length + 0) cs.length (ptG C xs rs cs)), (some b3, cellM [isI (rs.length : Int), isI (cs.length : Int), isGr g (tabR (i * cs.length + 0) cs.length (ptG C xs rs cs)).length]), (some b2, cellM [isI 0, isI 0, nilS]), (some b1, cellM [isI (R : Int), isI (C : Int), SlK 2 zc xs])]) (fun (z : { z : Nat × Gr (Bool × List Nat) // z.1 ≤ rs.length }) => match z with | ⟨(i, g), hI⟩ => rs.length - i) (⟨(0, Gr.nil), Nat.zero_le _⟩) (Cv.mem (.cons (t := 8) (Has.t' rfl ?_) (.k 1 rfl (.k 2 rfl (.k 3 rfl (.k 6 rfl (.k 7 rfl .nil)))))) ?_) ?_
 ·rfl
 ·exact grR_eq (n := 0) (ys := []) (by rw [tabR_len, Nat.zero_mul]) (show [] = tabR (0 * cs.length + 0) _ _ by rw [Nat.zero_mul]; rfl)
 rintro ⟨⟨i, g⟩, hI⟩ K5 hK5
 refine .cv (Cv.wk (.k 8 rfl (.k 1 rfl (.k 2 rfl (.k 3 rfl (.k 6 rfl (.k 7 rfl .nil))))))) ?_
 refine .memEq (M' := [grMK zc g (tabR (i * cs.length + 0) cs.length (ptG C xs rs cs)), (some b3, cellM [isI (rs.length : Int), isI (cs.length : Int), isGr g (tabR (i * cs.length + 0) cs.length (ptG C xs rs cs)).length]), (some b2, cellM [isI 0, isI 0, nilS]), (some b1, cellM [isI (R : Int), isI (C : Int), SlK 2 zc xs])]) rfl ?_
 simp only [] at hI
 refine .seq fun _ k6 => ?_
 refine .seq fun _ k7 => .region (st (.mv (.t rfl)) rfl ?_)
 refine st (.mv (.t rfl)) rfl (st (.eq (.len sl63 (.t rfl)) ((show isI _ = isI (rs.length : Int) from isI_eq (by rw [hprs])))) rfl ?_)
 refine st (.ltI (.t rfl) (.t rfl)) rfl ?_
 refine nl (.thn (k7 _ _ ?_))
 refine .cond (.t rfl) (fun hc1 => ?_) (fun hc1 => ?_)
 ·have hc1 := BP.t hc1
  refine .skip ?_
  refine .thn (k6 _ _ ?_)
  refine .seq fun _ k8 => ?_
  refine .block ?_
  refine .seq fun _ k9 => .region (st (.as (Has.cI 0 rfl)) rfl ?_)
  refine nl (.thn (k9 _ _ ?_))
  refine .block ?_
  refine .loopF [1, 2, 3, 6, 7, 8, 15, 16, 17, 18] (fun (z : { z : Nat × Gr (Bool × List Nat) // z.1 ≤ cs.length }) => match z with | ⟨(k, g2), hK⟩ => [(9, isI (k : Int))]) (fun M => fun (z : { z : Nat × Gr (Bool × List Nat) // z.1 ≤ cs.length }) => match z with | ⟨(k, g2), hK⟩ => [grMK zc g2 (tabR (i * cs.length + k) cs.length (ptG C xs rs cs)), (some b3, cellM [isI (rs.length : Int), isI (cs.length : Int), isGr g2 (tabR (i * cs.length + k) cs.length (ptG C xs rs cs)).length]), (some b2, cellM [isI 0, isI 0, nilS]), (some b1, cellM [isI (R : Int), isI (C : Int), SlK 2 zc xs])]) (fun (z : { z : Nat × Gr (Bool × List Nat) // z.1 ≤ cs.length }) => match z with | ⟨(k, g2), hK⟩ => cs.length - k) (⟨(0, g), Nat.zero_le _⟩) (Cv.mem (.cons (t := 9) (Has.t' rfl ?_) (.k 1 rfl (.k 2 rfl (.k 3 rfl (.k 6 rfl (.k 7 rfl (.k 8 rfl (.k 15 rfl (.k 16 rfl (.k 17 rfl (.k 18 rfl .nil))))))))))) ?_) ?_
  ·rfl
  ·rfl
  rintro ⟨⟨k, g2⟩, hK⟩ K10 hK10
  refine .cv (Cv.wk (.k 9 rfl (.k 1 rfl (.k 2 rfl (.k 3 rfl (.k 6 rfl (.k 7 rfl (.k 8 rfl (.k 15 rfl (.k 16 rfl (.k 17 rfl (.k 18 rfl .nil)))))))))))) ?_
  refine .memEq (M' := [grMK zc g2 (tabR (i * cs.length + k) cs.length (ptG C xs rs cs)), (some b3, cellM [isI (rs.length : Int), isI (cs.length : Int), isGr g2 (tabR (i * cs.length + k) cs.length (ptG C xs rs cs)).length]), (some b2, cellM [isI 0, isI 0, nilS]), (some b1, cellM [isI (R : Int), isI (C : Int), SlK 2 zc xs])]) rfl ?_
  simp only [] at hK
  refine .seq fun _ k11 => ?_
  refine .seq fun _ k12 => .region (st (.mv (.t rfl)) rfl ?_)
  refine st (.mv (.t rfl)) rfl (st (.eq (.len sl63 (.t rfl)) ((show isI _ = isI (cs.length : Int) from isI_eq (by rw [hpcs])))) rfl ?_)
  refine st (.ltI (.t rfl) (.t rfl)) rfl ?_
  refine nl (.thn (k12 _ _ ?_))
  refine .cond (.t rfl) (fun hc2 => ?_) (fun hc2 => ?_)
  ·have hc2 := BP.t hc2
   have h1 := hr _ (getD_mem (show i < rs.length by omega))
   have h2 := hc _ (getD_mem (show k < cs.length by omega))
   have hpl := place_lt h1 h2
   have hpl2 := place_lt (show i < rs.length by omega) (show k < cs.length by omega)
   refine .skip ?_
   refine .thn (k11 _ _ ?_)
   refine .seq fun _ k13 => ?_
   refine .block ?_
   refine .dry mixed ?_
   refine .tk 0 rfl rfl rfl rfl (OKY.fieldAddr (.t rfl) fld24_2 ty22) ?_
   refine .tk 3 rfl rfl rfl rfl (OKY.mv (.t rfl)) ?_
   refine .tk 4 rfl rfl rfl rfl (OKY.mv (.t rfl)) ?_
   refine .tk 7 rfl rfl rfl rfl (OKY.mv (.t rfl)) ?_
   refine .tk 8 rfl rfl rfl rfl (OKY.mv (.t rfl)) ?_
   refine .go [] ?_
   refine .s 1 [] rfl rfl rfl (.o rfl (.load1 (.t rfl) (i := 1) rfl ty22 rfl)) ?_
   refine .s 2 [] rfl rfl rfl (.o rfl (.load (.t rfl) (i := 3) rfl ty24 rfl (Ss' := [_, _, _]) rfl)) ?_
   refine .s 5 [] rfl rfl rfl (.o rfl (.ixP sl63 ty3 (.t rfl) (.t rfl) ⟨by omega, by omega⟩ (pv_getD (show i < rs.length by omega)))) ?_
   refine .s 6 [32] rfl rfl rfl (.o rfl (.loadP1 (.t rfl) ty3)) ?_
   refine .s 9 [] rfl rfl rfl (.o rfl (.ixP sl63 ty3 (.t rfl) (.t rfl) ⟨by omega, by omega⟩ (pv_getD (show k < cs.length by omega)))) ?_
   refine .s 10 [36] rfl rfl rfl (.o rfl (.loadP1 (.t rfl) ty3)) ?_
   refine .s 11 [29, 33, 37] rfl rfl rfl (.o rfl (.eq (.call (ref11_At (i := rs.getD i 0) (k := cs.getD k 0) (by omega) (by omega)) (.cons (.t rfl) (.cons (.t rfl) (.cons (.t rfl) .nil)))) ((show _ = Flat (zc (ptG C xs rs cs i k)) from rfl)))) ?_
   refine .s 12 [38] rfl rfl rfl (.o rfl (.buildS [isB false, SlM isU []] sl22 ty30 zero30 (fun _ _ => ⟨rfl, nilM _ _, trivial⟩) rfl rfl (.cons (.t rfl) rfl rfl rfl .nil) rfl (S := SlK 2 zc [ptG C xs rs cs i k]) rfl)) ?_
   refine .fin [13, 14, 15] (by kernel_rfl) (by kernel_rfl) (fun _ _ _ _ _ h => h) (by kernel_rfl) (by kernel_rfl) (by kernel_rfl) (by kernel_rfl) (by kernel_rfl) (by kernel_rfl) (by kernel_rfl) (by kernel_rfl) (by kernel_rfl) ?_
   refine .cv (Cv.wk (.k 1 rfl (.k 2 rfl (.k 3 rfl (.k 6 rfl (.k 7 rfl (.k 8 rfl (.k 15 rfl (.k 16 rfl (.k 17 rfl (.k 18 rfl (.k 9 rfl (.k 21 rfl (.k 22 rfl (.k 23 rfl (.k 24 rfl (.k 27 rfl (.k 30 rfl (.k 31 rfl (.k 34 rfl (.k 35 rfl (.k 28 rfl (.k 29 rfl (.k 32 rfl (.k 33 rfl (.k 36 rfl (.k 37 rfl (.k 38 rfl (.k 39 rfl .nil))))))))))))))))))))))))))))) ?_
   refine .appendGK (fk := zc) (u := (false, [])) zc_len (by decide) (fun _ => inferInstance) sl22 ty30 zero30 (fun _ _ => ⟨rfl, nilM _ _, trivial⟩) by30 (.t rfl) (i := 0) rfl (.t rfl) (by rw [tabR_len, List.length_singleton]; omega) (by simp) rfl fun gr1 => ?_
   refine .memEq (M' := [grMK _ _ _, _, _, _]) rfl ?_
   refine st (.fieldAddr (.t rfl) fld24_2 ty22) rfl ?_
   refine .store (.t rfl) (.t rfl) (i := 1) rfl ty22 rfl rfl (Ss' := [_, _, _]) rfl (M' := [_, (some _, cellM [_, _, _]), _, _]) rfl ?_
   refine nl ?_
   refine .bln ?_
   refine .thn (k13 _ _ ?_)
   refine .region (st (.mv (.t rfl)) rfl ?_)
   refine st (.addI (.t rfl) (Has.cI 1 rfl) (by first | omega | assumption) (by first | omega | assumption)) rfl ?_
   refine st (.as (.t rfl)) rfl ?_
   refine nl ?_
   refine .thn ?_
   refine hK10 (⟨(k + 1, gr1), by show k + 1 ≤ cs.length; omega⟩) _ _ ?_ (Cv.mem (.cons (t := 9) (Has.t' rfl ?_) (.k 1 rfl (.k 2 rfl (.k 3 rfl (.k 6 rfl (.k 7 rfl (.k 8 rfl (.k 15 rfl (.k 16 rfl (.k 17 rfl (.k 18 rfl .nil))))))))))) ?_)
   ·show cs.length - (k + 1) < cs.length - k; omega
   ·exact isI_eq (by omega)
   ·exact grR_eq (by rw [← tabR_succ _ (show k < cs.length by omega), List.length_append]) (by rw [← tabR_succ _ (show k < cs.length by omega)])
  ·have hc2 := BP.f hc2
   refine .exit ?_
   refine .the ?_
   refine .the ?_
   refine .blh ?_
   refine .bln ?_
   refine .thn (k8 _ _ ?_)
   refine .region (st (.mv (.t rfl)) rfl ?_)
   refine st (.addI (.t rfl) (Has.cI 1 rfl) (by first | omega | assumption) (by first | omega | assumption)) rfl ?_
   refine st (.as (.t rfl)) rfl ?_
   refine nl ?_
   refine .thn ?_
   have hkC : k = cs.length := by omega
   refine hK5 (⟨(i + 1, g2), by show i + 1 ≤ rs.length; omega⟩) _ _ ?_ (Cv.mem (.cons (t := 8) (Has.t' rfl ?_) (.k 1 rfl (.k 2 rfl (.k 3 rfl (.k 6 rfl (.k 7 rfl .nil)))))) ?_)
   ·show rs.length - (i + 1) < rs.length - i; omega
   ·exact isI_eq (by omega)
   ·exact grR_eq (by rw [hkC, Nat.succ_mul, Nat.add_zero]) (by rw [hkC, Nat.succ_mul, Nat.add_zero])
 ·have hc1 := BP.f hc1
  refine .exit ?_
  refine .the ?_
  refine .the ?_
  refine .blh ?_
  refine .thn (k3 _ _ ?_)
  refine .cv (Cv.wk (.k 6 rfl (.k 7 rfl .nil))) ?_
  refine .seq fun _ k14 => ?_
  refine .cv (Cv.freezeF (k := 2) (i := 0) (j := 0) (o := 2) rfl rfl rfl rfl (gr_lenK zc_len) (gr_takeK zc_len) (Ss' := [_, _, SlK 2 zc (tabR (i * cs.length + 0) cs.length (ptG C xs rs cs))]) rfl) ?_
  refine .memEq (M' := [(some _, cellM [_, _, SlK 2 zc (tabR (i * cs.length + 0) cs.length (ptG C xs rs cs))]), _, _]) rfl ?_
  refine .cv (Cv.wk (.k 6 rfl (.k 7 rfl .nil))) ?_
  refine .region (st (.load (.t rfl) (i := 0) rfl ty24 rfl (Ss' := [_, _, _]) rfl) rfl ?_)
  refine .store (.t rfl) (.t rfl) (i := 1) rfl ty24 rfl rfl (Ss' := [_, _, _]) rfl (M' := [_, (some _, cellM [_, _, _]), _]) rfl ?_
  refine nl (.thn (k14 _ _ ?_))
  refine .ret ?_
  refine rt1 (.inl rfl) Try.results37 rfl (.cell rfl (i := 1) rfl ty24 rfl ?_ .nil)
  all_goals (rw [Nat.add_zero, show i = rs.length by omega])
end Go.Proofs.Ythkdmhaafanjlaa
namespace Go.Proofs.Ythkdmhaafanjlaa
open Go.En Go.RowKit
set_option maxRecDepth 10000
set_option maxHeartbeats 4000000
open Go.Nt
open Go.Pz
open Go.Mz
open Go.Hn
open Go.Hp
open Go.Tr
open Go.Dt
theorem pv_rng (k : Nat) : pv (List.range k) ++ [(k : Int)] = pv (List.range (k + 1)) := by unfold pv; rw [List.range_succ, List.map_append]; rfl
theorem pv_rngl (k : Nat) : (pv (List.range k)).length = k := by rw [pv_len, List.length_range]
theorem nw0z : (List.length (words (0 : Int).natAbs)) < 4294700000 := Nat.lt_of_le_of_lt (nw_small' (n := 0) (by decide)) (by decide)
theorem ref15_Minors {R C K : Nat} {xs : List (Bool × List Nat)} (hx : Bd (vals xs) K) (hK : K ≤ 10000) (hR : R ≤ 16) (hC : C ≤ 16) (hl : xs.length = R * C) : Ctr Try.prog 12 [isM (R : Int) (C : Int) xs] (isZ (gcA (mf C (vals xs)) R C)) := by
 refine Ctr.intro Try.func12 rfl (by kernel_rfl) Try.ntmps12 rfl fun w0 F0 => ?_
 refine .cv (Cv.wk (.k 0 rfl .nil)) ?_
 have hchl := choices_len R C
 have h2m := Nat.pow_le_pow_right (show 0 < 2 by decide) hR
 refine .seq fun _ k1 => .region (.box (.t rfl) rfl fun b1 => ?_)
 refine .alloc [isB false, SlM isU []] zero30 (fun _ _ => ⟨rfl, nilM _ _, trivial⟩) rfl fun b2 => ?_
 refine nl (.thn (k1 _ _ ?_))
 refine .seq fun _ k2 => .region (.cv (Cv.grow0 (α := Int) isI) ?_)
 refine st (.as (Has.cGr (α := Int))) rfl ?_
 refine nl (.thn (k2 _ _ ?_))
 refine .seq fun _ k3 => ?_
 refine .seq fun _ k4 => .region (st (.as (Has.cI 0 rfl)) rfl ?_)
 refine nl (.thn (k4 _ _ ?_))
 refine .block ?_
 refine .loopF [1, 2] (fun (z : { z : Nat × Gr Int // z.1 ≤ C }) => match z with | ⟨(k, g), hI⟩ => [(4, isI (k : Int)), (3, isGr g (pv (List.range k)).length)]) (fun M => fun (z : { z : Nat × Gr Int // z.1 ≤ C }) => match z with | ⟨(k, g), hI⟩ => [grM isI g (pv (List.range k)), (some b2, cellM [isB false, SlM isU []]), (some b1, cellM [isI (R : Int), isI (C : Int), SlK 2 zc xs])]) (fun (z : { z : Nat × Gr Int // z.1 ≤ C }) => match z with | ⟨(k, g), hI⟩ => C - k) (⟨(0, Gr.nil), Nat.zero_le _⟩) (Cv.mem (.cons (t := 4) (Has.t' rfl ?_) (.cons (t := 3) (Has.t' rfl ?_) (.k 1 rfl (.k 2 rfl .nil)))) ?_) ?_
 ·rfl
 ·rfl
 ·rfl
 rintro ⟨⟨k, g⟩, hI⟩ K5 hK5
 refine .cv (Cv.wk (.k 4 rfl (.k 3 rfl (.k 1 rfl (.k 2 rfl .nil))))) ?_
 refine .memEq (M' := [grM isI g (pv (List.range k)), (some b2, cellM [isB false, SlM isU []]), (some b1, cellM [isI (R : Int), isI (C : Int), SlK 2 zc xs])]) rfl ?_
 simp only [] at hI
 have hpk := pv_rngl k
 refine .seq fun _ k6 => ?_
 refine .seq fun _ k7 => .region (st (.mv (.t rfl)) rfl ?_)
 refine st (.fieldAddr (.t rfl) fld24_1 ty3) rfl (st (.load1 (.t rfl) (i := 2) rfl ty3 rfl) rfl ?_)
 refine st (.ltI (.t rfl) (.t rfl)) rfl ?_
 refine nl (.thn (k7 _ _ ?_))
 refine .cond (.t rfl) (fun hc1 => ?_) (fun hc1 => ?_)
 ·have hc1 := BP.t hc1
  skip
  refine .skip ?_
  refine .thn (k6 _ _ ?_)
  refine .seq fun _ k8 => ?_
  refine .block ?_
  refine .region (st (.mv (.t rfl)) rfl ?_)
  refine st (.mv (.t rfl)) rfl (st (.buildS [isI 0] sl63 ty3 zero3 (fun _ _ => ⟨⟨rfl, by decide, by decide⟩, trivial⟩) rfl rfl (.cons (.t rfl) rfl rfl rfl .nil) rfl (S := SlM isI [(k : Int)]) rfl) rfl ?_)
  refine .appendG (f := isI) (u := 0) sl63 ty3 zero3 (fun _ _ => ⟨⟨rfl, by decide, by decide⟩, trivial⟩) (fun _ => inferInstance) by3 (.t rfl) (i := 0) rfl (.t rfl) (by rw [hpk, List.length_singleton]; omega) (by simp) rfl fun gr1 => ?_
  refine .memEq (M' := [grM _ _ _, _, _]) rfl ?_
  refine st (.as (.t rfl)) rfl ?_
  refine nl ?_
  refine .bln ?_
  refine .thn (k8 _ _ ?_)
  refine .region (st (.mv (.t rfl)) rfl ?_)
  refine st (.addI (.t rfl) (Has.cI 1 rfl) (by first | omega | assumption) (by first | omega | assumption)) rfl ?_
  refine st (.as (.t rfl)) rfl ?_
  refine nl ?_
  refine .thn ?_
  refine hK5 (⟨(k + 1, gr1), by show k + 1 ≤ C; omega⟩) _ _ ?_ (Cv.mem (.cons (t := 4) (Has.t' rfl ?_) (.cons (t := 3) (Has.t' rfl ?_) (.k 1 rfl (.k 2 rfl .nil)))) ?_)
  ·show C - (k + 1) < C - k; omega
  ·exact isI_eq (by omega)
  ·exact isGr_eq (by rw [← pv_rng, List.length_append])
  ·exact grM_eq (pv_rng k)
 ·have hc1 := BP.f hc1
  have hkC : C = k := (by omega)
  subst hkC
  refine .exit ?_
  refine .the ?_
  refine .the ?_
  refine .blh ?_
  refine .thn (k3 _ _ ?_)
  refine .cv (Cv.wk (.k 1 rfl (.k 2 rfl (.k 3 rfl .nil)))) ?_
  refine .seq fun _ k9 => ?_
  refine .cv (Cv.freezeG (t := 3) (i := 0) (ys := (pv (List.range C))) rfl rfl rfl) ?_
  refine .memEq (M' := [_, _]) rfl ?_
  refine .cv (Cv.wk (.k 1 rfl (.k 2 rfl (.k 3 rfl .nil)))) ?_
  refine .region (st (.call (zint_Of) (.cons (Has.cI 0 rfl) .nil)) rfl ?_)
  refine .alloc [isB false, SlM isU []] zero30 (fun _ _ => ⟨rfl, nilM _ _, trivial⟩) rfl fun b3 => ?_
  refine .store (.t rfl) (.t rfl) (i := 0) rfl ty30 rfl rfl (Ss' := [_, _]) rfl (M' := [(some _, cellM [_, _]), _, _]) rfl ?_
  refine nl (.thn (k9 _ _ ?_))
  refine .seq fun _ k10 => .region (st (.fieldAddr (.t rfl) fld24_0 ty3) rfl ?_)
  refine st (.load1 (.t rfl) (i := 2) rfl ty3 rfl) rfl (st (.fieldAddr (.t rfl) fld24_1 ty3) rfl ?_)
  refine st (.load1 (.t rfl) (i := 2) rfl ty3 rfl) rfl (st (.call (ref12_Choices hR (by omega)) (.cons (.t rfl) (.cons (.t rfl) .nil))) rfl ?_)
  refine st (.as (.t rfl)) rfl ?_
  refine nl (.thn (k10 _ _ ?_))
  refine .cv (Cv.wk (.k 1 rfl (.k 2 rfl (.k 3 rfl (.k 5 rfl (.k 6 rfl .nil)))))) ?_
  refine .seq fun _ k11 => ?_
  refine .seq fun _ k12 => .region (st (.as (Has.cI 0 rfl)) rfl ?_)
  refine nl (.thn (k12 _ _ ?_))
  refine .block ?_
  refine .loopF [1, 2, 3, 5, 6] (fun (z : { i : Nat // i ≤ (choices R C).length }) => match z with | ⟨i, hi⟩ => [(7, isI (i : Int))]) (fun M => fun (z : { i : Nat // i ≤ (choices R C).length }) => match z with | ⟨i, hi⟩ => [zM b3 (gcM (mf C (vals xs)) R C i), (some b2, cellM [isB false, SlM isU []]), (some b1, cellM [isI (R : Int), isI (C : Int), SlK 2 zc xs])]) (fun (z : { i : Nat // i ≤ (choices R C).length }) => match z with | ⟨i, hi⟩ => (choices R C).length - i) (⟨0, Nat.zero_le _⟩) (Cv.mem (.cons (t := 7) (Has.t' rfl ?_) (.k 1 rfl (.k 2 rfl (.k 3 rfl (.k 5 rfl (.k 6 rfl .nil)))))) ?_) ?_
  ·rfl
  ·rfl
  rintro ⟨i, hi⟩ K13 hK13
  refine .cv (Cv.wk (.k 7 rfl (.k 1 rfl (.k 2 rfl (.k 3 rfl (.k 5 rfl (.k 6 rfl .nil))))))) ?_
  refine .memEq (M' := [zM b3 (gcM (mf C (vals xs)) R C i), (some b2, cellM [isB false, SlM isU []]), (some b1, cellM [isI (R : Int), isI (C : Int), SlK 2 zc xs])]) rfl ?_
  have hgw := gcM_nw (R := R) hx (by omega : C ≤ 64) i
  refine .seq fun _ k14 => ?_
  refine .seq fun _ k15 => .region (st (.mv (.t rfl)) rfl ?_)
  refine st (.mv (.t rfl)) rfl (st (.len sl69 (.t rfl)) rfl ?_)
  refine st (.ltI (.t rfl) (.t rfl)) rfl ?_
  refine nl (.thn (k15 _ _ ?_))
  refine .cond (.t rfl) (fun hc2 => ?_) (fun hc2 => ?_)
  ·have hc2 := BP.t hc2
   have hil : i < (choices R C).length := (by omega)
   have hYmem : ((choices R C).getD i []) ∈ choices R C := by rw [List.getD, List.getElem?_eq_getElem hil]; exact List.getElem_mem _
   obtain ⟨hYl, hYm⟩ := choices_spec R C _ hYmem
   have hdw := mn_nw (C := C) hx ((choices R C).getD i []) (List.range C)
   have hK2 : ((choices R C).getD i []).length * (K + ((choices R C).getD i []).length) ≤ 64 * (10000 + 64) := Nat.mul_le_mul (by omega) (by omega)
   refine .skip ?_
   refine .thn (k14 _ _ ?_)
   refine .seq fun _ k16 => ?_
   refine .block ?_
   refine .dr ?_
   refine .s [] rfl rfl rfl (.o rfl (.load (.t rfl) (i := 0) rfl ty30 rfl (Ss' := [_, _]) rfl)) ?_
   refine .s [] rfl rfl rfl (.o rfl (.load (.t rfl) (i := 2) rfl ty24 rfl (Ss' := [_, _, _]) rfl)) ?_
   refine .s [] rfl rfl rfl (.o rfl (.mv (.t rfl))) ?_
   refine .s [] rfl rfl rfl (.o rfl (.mv (.t rfl))) ?_
   refine .s [32, 33] rfl rfl rfl (.o rfl (.ixP sl69 ty63 (.t rfl) (.t rfl) ⟨by omega, by omega⟩ (getD_some (d := []) (by first | omega | (simp only [Int.toNat_natCast, List.length_set]; omega))))) ?_
   refine .s [34] rfl rfl rfl (.o rfl (.eq (.loadP1 (.t rfl) ty63) ((show _ = isLn ((choices R C).getD i []) from rfl)))) ?_
   refine .s [] rfl rfl rfl (.o rfl (.eq (.mv (.t rfl)) ((show _ = isLn (List.range C) from rfl)))) ?_
   refine .s [31, 35, 36] rfl rfl rfl (.o rfl (.eq (.call (ref12_Part (cs := List.range C) (by omega) (by omega) hl hYm (fun x hx => List.mem_range.1 hx) (by omega) (by rw [List.length_range]; omega)) (.cons (.t rfl) (.cons (.t rfl) (.cons (.t rfl) .nil)))) ((show _ = isM (C : Int) (C : Int) (tabR (C * C) C (ptG C xs ((choices R C).getD i []) (List.range C))) from by rw [hYl, List.length_range])))) ?_
   refine .s [37] rfl rfl rfl (.o rfl (.eq (.call (ref12_Det (K := K) (pt_bd hx _) (by omega) (by omega) (tabR_len _ _ _)) (.cons (.t rfl) .nil)) ((show _ = isZ (mn (mf C (vals xs)) ((choices R C).getD i []) (List.range C)) from isZ_eq (pt_mn hYl))))) ?_
   refine .fin (n := 9) mixed (by kernel_rfl) (by kernel_rfl) (by kernel_rfl) ?_
   refine .cv (Cv.wk (.k 1 rfl (.k 2 rfl (.k 3 rfl (.k 5 rfl (.k 6 rfl (.k 7 rfl (.k 24 rfl (.k 25 rfl (.k 26 rfl (.k 27 rfl (.k 30 rfl (.k 31 rfl (.k 32 rfl (.k 33 rfl (.k 34 rfl (.k 35 rfl (.k 36 rfl (.k 37 rfl (.k 38 rfl .nil)))))))))))))))))))) ?_
   refine st (.eq (.call (zint_Gcd (by rw [val_words]; omega) (by rw [val_words]; omega)) (.cons (.t rfl) (.cons (.t rfl) .nil))) ((show isZ _ = isZ (gcM (mf C (vals xs)) R C (i + 1)) from isZ_eq (by rw [val_words, val_words]; rfl)))) rfl ?_
   refine .store (.t rfl) (.t rfl) (i := 0) rfl ty30 rfl rfl (Ss' := [_, _]) rfl (M' := [(some _, cellM [_, _]), _, _]) rfl ?_
   refine nl ?_
   refine .bln ?_
   refine .thn (k16 _ _ ?_)
   refine .region (st (.mv (.t rfl)) rfl ?_)
   refine st (.addI (.t rfl) (Has.cI 1 rfl) (by first | omega | assumption) (by first | omega | assumption)) rfl ?_
   refine st (.as (.t rfl)) rfl ?_
   refine nl ?_
   refine .thn ?_
   refine hK13 (⟨i + 1, by omega⟩) _ _ ?_ (Cv.mem (.cons (t := 7) (Has.t' rfl ?_) (.k 1 rfl (.k 2 rfl (.k 3 rfl (.k 5 rfl (.k 6 rfl .nil)))))) ?_)
   ·show (choices R C).length - (i + 1) < (choices R C).length - i; omega
   ·exact isI_eq (by omega)
   ·rfl
  ·have hc2 := BP.f hc2
   have hiL : (choices R C).length = i := (by omega)
   refine .exit ?_
   refine .the ?_
   refine .the ?_
   refine .blh ?_
   refine .thn (k11 _ _ ?_)
   refine .cv (Cv.wk (.k 2 rfl (.k 5 rfl .nil))) ?_
   refine .seq fun _ k17 => .region (st (.load (.t rfl) (i := 0) rfl ty30 rfl (Ss' := [_, _]) rfl) rfl ?_)
   refine .store (.t rfl) (.t rfl) (i := 1) rfl ty30 rfl rfl (Ss' := [_, _]) rfl (M' := [_, (some _, cellM [_, _]), _]) rfl ?_
   refine nl (.thn (k17 _ _ ?_))
   refine .ret ?_
   refine rt1 (.inl rfl) Try.results12 rfl (.cell rfl (i := 1) rfl ty30 rfl ?_ .nil)
   all_goals (exact isZ_eq (by rw [← hiL]))
theorem ref15_Is {R C K : Nat} {xs : List (Bool × List Nat)} (hx : Bd (vals xs) K) (hK : K ≤ 10000) (hR : R ≤ 16) (hC : C ≤ 16) (hl : xs.length = R * C) {x : Int} (hxw : (List.length (words x.natAbs)) ≤ 4000000000) (hY : ∃ Y, Y ∈ choices R C ∧ (mn (mf C (vals xs)) Y (List.range C)).natAbs = x.natAbs) : Ctr Try.prog 15 [isM (R : Int) (C : Int) xs, isZ x] (isB true) := by
 refine Ctr.intro Try.func15 rfl (by kernel_rfl) Try.ntmps15 rfl fun w0 F0 => ?_
 refine .cv (Cv.wk (.k 0 rfl (.k 1 rfl .nil))) ?_
 have hchl := choices_len R C
 have h2m := Nat.pow_le_pow_right (show 0 < 2 by decide) hR
 refine .seq fun _ k1 => .region (.box (.t rfl) rfl fun b1 => ?_)
 refine .box (.t rfl) rfl fun b2 => ?_
 refine st (.as (Has.cB false)) rfl ?_
 refine nl (.thn (k1 _ _ ?_))
 refine .seq fun _ k2 => .region (.cv (Cv.grow0 (α := Int) isI) ?_)
 refine st (.as (Has.cGr (α := Int))) rfl ?_
 refine nl (.thn (k2 _ _ ?_))
 refine .seq fun _ k3 => ?_
 refine .seq fun _ k4 => .region (st (.as (Has.cI 0 rfl)) rfl ?_)
 refine nl (.thn (k4 _ _ ?_))
 refine .block ?_
 refine .loopF [2, 3, 4] (fun (z : { z : Nat × Gr Int // z.1 ≤ C }) => match z with | ⟨(k, g), hI⟩ => [(6, isI (k : Int)), (5, isGr g (pv (List.range k)).length)]) (fun M => fun (z : { z : Nat × Gr Int // z.1 ≤ C }) => match z with | ⟨(k, g), hI⟩ => [grM isI g (pv (List.range k)), (some b2, cellM [isB (nz x).1, SlM isU (nz x).2]), (some b1, cellM [isI (R : Int), isI (C : Int), SlK 2 zc xs])]) (fun (z : { z : Nat × Gr Int // z.1 ≤ C }) => match z with | ⟨(k, g), hI⟩ => C - k) (⟨(0, Gr.nil), Nat.zero_le _⟩) (Cv.mem (.cons (t := 6) (Has.t' rfl ?_) (.cons (t := 5) (Has.t' rfl ?_) (.k 2 rfl (.k 3 rfl (.k 4 rfl .nil))))) ?_) ?_
 ·rfl
 ·rfl
 ·rfl
 rintro ⟨⟨k, g⟩, hI⟩ K5 hK5
 refine .cv (Cv.wk (.k 6 rfl (.k 5 rfl (.k 2 rfl (.k 3 rfl (.k 4 rfl .nil)))))) ?_
 refine .memEq (M' := [grM isI g (pv (List.range k)), (some b2, cellM [isB (nz x).1, SlM isU (nz x).2]), (some b1, cellM [isI (R : Int), isI (C : Int), SlK 2 zc xs])]) rfl ?_
 simp only [] at hI
 have hpk := pv_rngl k
 refine .seq fun _ k6 => ?_
 refine .seq fun _ k7 => .region (st (.mv (.t rfl)) rfl ?_)
 refine st (.fieldAddr (.t rfl) fld24_1 ty3) rfl (st (.load1 (.t rfl) (i := 2) rfl ty3 rfl) rfl ?_)
 refine st (.ltI (.t rfl) (.t rfl)) rfl ?_
 refine nl (.thn (k7 _ _ ?_))
 refine .cond (.t rfl) (fun hc1 => ?_) (fun hc1 => ?_)
 ·have hc1 := BP.t hc1
  skip
  refine .skip ?_
  refine .thn (k6 _ _ ?_)
  refine .seq fun _ k8 => ?_
  refine .block ?_
  refine .region (st (.mv (.t rfl)) rfl ?_)
  refine st (.mv (.t rfl)) rfl (st (.buildS [isI 0] sl63 ty3 zero3 (fun _ _ => ⟨⟨rfl, by decide, by decide⟩, trivial⟩) rfl rfl (.cons (.t rfl) rfl rfl rfl .nil) rfl (S := SlM isI [(k : Int)]) rfl) rfl ?_)
  refine .appendG (f := isI) (u := 0) sl63 ty3 zero3 (fun _ _ => ⟨⟨rfl, by decide, by decide⟩, trivial⟩) (fun _ => inferInstance) by3 (.t rfl) (i := 0) rfl (.t rfl) (by rw [hpk, List.length_singleton]; omega) (by simp) rfl fun gr1 => ?_
  refine .memEq (M' := [grM _ _ _, _, _]) rfl ?_
  refine st (.as (.t rfl)) rfl ?_
  refine nl ?_
  refine .bln ?_
  refine .thn (k8 _ _ ?_)
  refine .region (st (.mv (.t rfl)) rfl ?_)
  refine st (.addI (.t rfl) (Has.cI 1 rfl) (by first | omega | assumption) (by first | omega | assumption)) rfl ?_
  refine st (.as (.t rfl)) rfl ?_
  refine nl ?_
  refine .thn ?_
  refine hK5 (⟨(k + 1, gr1), by show k + 1 ≤ C; omega⟩) _ _ ?_ (Cv.mem (.cons (t := 6) (Has.t' rfl ?_) (.cons (t := 5) (Has.t' rfl ?_) (.k 2 rfl (.k 3 rfl (.k 4 rfl .nil))))) ?_)
  ·show C - (k + 1) < C - k; omega
  ·exact isI_eq (by omega)
  ·exact isGr_eq (by rw [← pv_rng, List.length_append])
  ·exact grM_eq (pv_rng k)
 ·have hc1 := BP.f hc1
  have hkC : C = k := (by omega)
  subst hkC
  refine .exit ?_
  refine .the ?_
  refine .the ?_
  refine .blh ?_
  refine .thn (k3 _ _ ?_)
  refine .cv (Cv.wk (.k 2 rfl (.k 3 rfl (.k 4 rfl (.k 5 rfl .nil))))) ?_
  refine .seq fun _ k9 => ?_
  refine .cv (Cv.freezeG (t := 5) (i := 0) (ys := (pv (List.range C))) rfl rfl rfl) ?_
  refine .memEq (M' := [_, _]) rfl ?_
  refine .cv (Cv.wk (.k 2 rfl (.k 3 rfl (.k 4 rfl (.k 5 rfl .nil))))) ?_
  refine .region (st (.fieldAddr (.t rfl) fld24_0 ty3) rfl ?_)
  refine st (.load1 (.t rfl) (i := 1) rfl ty3 rfl) rfl (st (.fieldAddr (.t rfl) fld24_1 ty3) rfl ?_)
  refine st (.load1 (.t rfl) (i := 1) rfl ty3 rfl) rfl (st (.call (ref12_Choices hR (by omega)) (.cons (.t rfl) (.cons (.t rfl) .nil))) rfl ?_)
  refine st (.as (.t rfl)) rfl ?_
  refine nl (.thn (k9 _ _ ?_))
  refine .cv (Cv.wk (.k 2 rfl (.k 3 rfl (.k 4 rfl (.k 5 rfl (.k 7 rfl .nil)))))) ?_
  refine .seq fun _ k10 => ?_
  refine .seq fun _ k11 => .region (st (.as (Has.cI 0 rfl)) rfl ?_)
  refine nl (.thn (k11 _ _ ?_))
  refine .block ?_
  refine .loopF [2, 3, 5, 7] (fun (z : { i : Nat // i ≤ (choices R C).length ∧ ∀ j, j < i → (mn (mf C (vals xs)) ((choices R C).getD j []) (List.range C)).natAbs ≠ x.natAbs }) => match z with | ⟨i, hI⟩ => [(8, isI (i : Int))]) (fun M => fun (z : { i : Nat // i ≤ (choices R C).length ∧ ∀ j, j < i → (mn (mf C (vals xs)) ((choices R C).getD j []) (List.range C)).natAbs ≠ x.natAbs }) => match z with | ⟨i, hI⟩ => M) (fun (z : { i : Nat // i ≤ (choices R C).length ∧ ∀ j, j < i → (mn (mf C (vals xs)) ((choices R C).getD j []) (List.range C)).natAbs ≠ x.natAbs }) => match z with | ⟨i, hI⟩ => (choices R C).length - i) (⟨0, Nat.zero_le _, fun j hj => absurd hj (Nat.not_lt_zero _)⟩) (Cv.mem (.cons (t := 8) (Has.t' rfl ?_) (.k 2 rfl (.k 3 rfl (.k 5 rfl (.k 7 rfl .nil))))) ?_) ?_
  ·rfl
  ·rfl
  rintro ⟨i, hi, hq⟩ K12 hK12
  refine .cv (Cv.wk (.k 8 rfl (.k 2 rfl (.k 3 rfl (.k 5 rfl (.k 7 rfl .nil)))))) ?_
  refine .seq fun _ k13 => ?_
  refine .seq fun _ k14 => .region (st (.mv (.t rfl)) rfl ?_)
  refine st (.mv (.t rfl)) rfl (st (.len sl69 (.t rfl)) rfl ?_)
  refine st (.ltI (.t rfl) (.t rfl)) rfl ?_
  refine nl (.thn (k14 _ _ ?_))
  refine .cond (.t rfl) (fun hc2 => ?_) (fun hc2 => ?_)
  ·have hc2 := BP.t hc2
   have hil : i < (choices R C).length := (by omega)
   have hYmem : ((choices R C).getD i []) ∈ choices R C := by rw [List.getD, List.getElem?_eq_getElem hil]; exact List.getElem_mem _
   obtain ⟨hYl, hYm⟩ := choices_spec R C _ hYmem
   have hdw := mn_nw (C := C) hx ((choices R C).getD i []) (List.range C)
   have hK2 : ((choices R C).getD i []).length * (K + ((choices R C).getD i []).length) ≤ 64 * (10000 + 64) := Nat.mul_le_mul (by omega) (by omega)
   refine .skip ?_
   refine .thn (k13 _ _ ?_)
   refine .seq fun _ k15 => ?_
   refine .block ?_
   refine .seq fun _ k16 => ?_
   refine .drh [true, true] (Ms := [_, _]) rfl ?_
   refine .s [] rfl rfl rfl (.o rfl (.load (.t rfl) (i := 1) rfl ty24 rfl (Ss' := [_, _, _]) rfl)) ?_
   refine .s [] rfl rfl rfl (.o rfl (.mv (.t rfl))) ?_
   refine .s [] rfl rfl rfl (.o rfl (.mv (.t rfl))) ?_
   refine .s [32, 33] rfl rfl rfl (.o rfl (.ixP sl69 ty63 (.t rfl) (.t rfl) ⟨by omega, by omega⟩ (getD_some (d := []) (by first | omega | (simp only [Int.toNat_natCast, List.length_set]; omega))))) ?_
   refine .s [34] rfl rfl rfl (.o rfl (.eq (.loadP1 (.t rfl) ty63) ((show _ = isLn ((choices R C).getD i []) from rfl)))) ?_
   refine .s [] rfl rfl rfl (.o rfl (.eq (.mv (.t rfl)) ((show _ = isLn (List.range C) from rfl)))) ?_
   refine .s [31, 35, 36] rfl rfl rfl (.o rfl (.eq (.call (ref12_Part (cs := List.range C) (by omega) (by omega) hl hYm (fun x hx => List.mem_range.1 hx) (by omega) (by rw [List.length_range]; omega)) (.cons (.t rfl) (.cons (.t rfl) (.cons (.t rfl) .nil)))) ((show _ = isM (C : Int) (C : Int) (tabR (C * C) C (ptG C xs ((choices R C).getD i []) (List.range C))) from by rw [hYl, List.length_range])))) ?_
   refine .s [37] rfl rfl rfl (.o rfl (.eq (.call (ref12_Det (K := K) (pt_bd hx _) (by omega) (by omega) (tabR_len _ _ _)) (.cons (.t rfl) .nil)) ((show _ = isZ (mn (mf C (vals xs)) ((choices R C).getD i []) (List.range C)) from isZ_eq (pt_mn hYl))))) ?_
   refine .als (n1 := 9) (ds := [9]) (zs := [[isB false, SlM isU []]]) rfl (.cons rfl rfl zero30 (fun _ _ => ⟨rfl, nilM _ _, trivial⟩) .nil) (.cons_cons _ (.cons_cons _ .slnil)) (Cs := [_]) rfl ?_
   refine .fin (n := 9) mixed rfl (by kernel_rfl) (by kernel_rfl) (by kernel_rfl) (fun bs hbs => ?_)
   obtain ⟨b3, rfl⟩ := len1 hbs
   refine .memEq (M' := [_, _, _]) rfl ?_
   refine .cv (Cv.wk (.k 2 rfl (.k 3 rfl (.k 5 rfl (.k 7 rfl (.k 8 rfl (.k 25 rfl (.k 26 rfl (.k 27 rfl (.k 28 rfl (.k 31 rfl (.k 32 rfl (.k 33 rfl (.k 34 rfl (.k 35 rfl (.k 36 rfl (.k 37 rfl (.k 38 rfl (.cons (t := 9) (Has.op rfl) .nil))))))))))))))))))) ?_
   refine .store (.t rfl) (.t rfl) (i := 0) rfl ty30 rfl rfl (Ss' := [_, _]) rfl (M' := [(some _, cellM [_, _]), _, _]) rfl ?_
   refine nl (.thn (k16 _ _ ?_))
   refine .seq fun _ k17 => ?_
   refine .dr ?_
   refine .s [] rfl rfl rfl (.o rfl (.load (.t rfl) (i := 0) rfl ty30 rfl (Ss' := [_, _]) rfl)) ?_
   refine .s [39] rfl rfl rfl (.o rfl (.eq (.call (zint_Abs (by rw [val_words]; omega)) (.cons (.t rfl) .nil)) ((show isZ _ = isZ (((mn (mf C (vals xs)) ((choices R C).getD i []) (List.range C)).natAbs : Nat) : Int) from isZ_eq (by rw [zv_nf]))))) ?_
   refine .s [] rfl rfl rfl (.o rfl (.load (.t rfl) (i := 1) rfl ty30 rfl (Ss' := [_, _]) rfl)) ?_
   refine .fin (n := 3) mixed (by kernel_rfl) (by kernel_rfl) (by kernel_rfl) ?_
   refine .cv (Cv.wk (.k 2 rfl (.k 3 rfl (.k 5 rfl (.k 7 rfl (.k 8 rfl (.k 25 rfl (.k 26 rfl (.k 27 rfl (.k 28 rfl (.k 31 rfl (.k 32 rfl (.k 33 rfl (.k 34 rfl (.k 35 rfl (.k 36 rfl (.k 37 rfl (.k 38 rfl (.k 9 rfl (.k 39 rfl (.k 40 rfl (.k 41 rfl .nil)))))))))))))))))))))) ?_
   refine st (.eq (.call (zint_Abs (by rw [val_words]; omega)) (.cons (.t rfl) .nil)) ((show isZ _ = isZ ((x.natAbs : Nat) : Int) from isZ_eq (by rw [zv_nf])))) rfl ?_
   refine st (.eq (.call (zint_Same (by rw [val_words, Int.natAbs_natCast]; omega) (by rw [val_words, Int.natAbs_natCast]; omega)) (.cons (.t rfl) (.cons (.t rfl) .nil))) ((show isB _ = isB (decide ((((mn (mf C (vals xs)) ((choices R C).getD i []) (List.range C)).natAbs : Nat) : Int) = ((x.natAbs : Nat) : Int))) from isB_eq (by simp only [zv_nf])))) rfl ?_
   refine nl (.thn (k17 _ _ ?_))
   refine .cond (.t rfl) (fun hc3 => ?_) (fun hc3 => ?_)
   ·have hc3 := BP.t hc3
    skip
    refine .seq fun _ k18 => .region (st (.as (Has.cB true)) rfl ?_)
    refine nl (.thn (k18 _ _ ?_))
    refine .ret ?_
    refine .blr ?_
    refine .thr ?_
    refine .thr ?_
    refine .blr ?_
    refine .thr ?_
    refine rt1 (.inl rfl) Try.results15 rfl (.tmp (Has.t' rfl ?_) .nil)
    all_goals (rfl)
   ·have hc3 := BP.f hc3
    have hne : (mn (mf _ (vals xs)) ((choices R _).getD i []) (List.range _)).natAbs ≠ x.natAbs := fun e => hc3 (by rw [e])
    refine .skip ?_
    refine .bln ?_
    refine .thn (k15 _ _ ?_)
    refine .region (st (.mv (.t rfl)) rfl ?_)
    refine st (.addI (.t rfl) (Has.cI 1 rfl) (by first | omega | assumption) (by first | omega | assumption)) rfl ?_
    refine st (.as (.t rfl)) rfl ?_
    refine nl ?_
    refine .thn ?_
    refine hK12 (⟨i + 1, by omega, fun j hj => by rcases Nat.lt_or_ge j i with h | h; exact hq j h; obtain rfl : j = i := (by omega); exact hne⟩) _ _ ?_ (Cv.trans (Cv.drop ((.cons _ (.cons_cons _ (.cons_cons _ .slnil))))) (Cv.mem (.cons (t := 8) (Has.t' rfl ?_) (.k 2 rfl (.k 3 rfl (.k 5 rfl (.k 7 rfl .nil))))) ?_))
    ·show (choices R C).length - (i + 1) < (choices R C).length - i; omega
    ·exact isI_eq (by omega)
    ·rfl
  ·have hc2 := BP.f hc2
   exfalso
   obtain ⟨Y, hYm, hYe⟩ := hY
   obtain ⟨j, hj, e⟩ := List.getElem_of_mem hYm
   refine hq j (by omega) ?_
   rw [List.getD, List.getElem?_eq_getElem hj]
   exact e ▸ hYe
end Go.Proofs.Ythkdmhaafanjlaa
namespace Go.En
open Go.RowKit Go.Nt Go.Pz
section
variable {E : Env} {P : Program} {Γ : Ctx} {M : Mem}
theorem Sat.freezeRows {a : Act} {w : World} {A : Mem} (hW : E.W = []) : ∀ (rs : List Row) (F : Blk), Sat E Γ (A ++ rs.map rowM) a w F →
    ∃ F', (∀ b, F b → F' b) ∧ Sat E Γ A a w F' ∧ ∀ r ∈ rs, ∀ v, (rowV r).h w F v → (isP r.2).h w F' v
  | [], F, s => ⟨F, fun _ h => h, by rw [List.map_nil, List.append_nil] at s; exact s, by simp⟩
  | r :: rs, F, s => by
    have hM : (A ++ (r :: rs).map rowM)[A.length]? = some (r.1.ob, cellM ((r.2.map nz ++ r.1.sp).flatMap zc)) := by
      rw [List.getElem?_append_right (Nat.le_refl _), Nat.sub_self]; rfl
    obtain ⟨F1, h1, s1, c1⟩ := s.freezeGr (k := 2) (g := r.1) (n := (r.2.map nz).length) hW hM (gr_lenK zc_len) (gr_takeK zc_len)
    have he : (A ++ (r :: rs).map rowM).eraseIdx A.length = A ++ rs.map rowM := by
      rw [List.eraseIdx_append_of_length_le (Nat.le_refl _), Nat.sub_self]; rfl
    rw [he] at s1
    obtain ⟨F2, h2, s2, c2⟩ := Sat.freezeRows hW rs F1 s1
    refine ⟨F2, fun b hb => h2 b (h1 b hb), s2, fun q hq v hv => ?_⟩
    rcases List.mem_cons.1 hq with rfl | hq
    · exact (isP q.2).mono _ _ _ _ _ (c1 v hv) (fun _ _ => rfl) h2
    · exact c2 q hq v hv
theorem All2.conv {α : Type} {f g : α → VP} {w : World} {F : Blk} : ∀ {xs : List α} {Us : List VP} {vs : List Value}, (∀ x ∈ xs, ∀ v, (f x).h w F v → (g x).h w F v) → All2 (xs.map f ++ Us) w F vs → All2 (xs.map g ++ Us) w F vs
 | [], Us, vs, _, h => h
 | x :: xs, Us, v :: vs, hc, h => ⟨hc x (by simp) v h.1, All2.conv (fun y hy => hc y (by simp [hy])) h.2⟩
 | _ :: _, _, [], _, h => h.elim
theorem Sat.memSetO {a : Act} {w : World} {F : Blk} {i : Nat} {ob : Option Nat} {C C' : MP} (s : Sat E Γ M a w F) (hM : M[i]? = some (ob, C)) (h : ∀ o, C.h w F o → C'.h w F o) : Sat E Γ (M.set i (ob, C')) a w F := by
  cases ob with
  | some b => exact s.memSet hM h
  | none =>
    refine { s with mem := ⟨?_, fun b D hb => ?_⟩ }
    · rw [List.pairwise_iff_getElem]
      intro j k hj hk hjk
      have hp := List.pairwise_iff_getElem.1 s.mem.apart j k (by simpa using hj) (by simpa using hk) hjk
      simp only [List.getElem_set]
      have hi : i < M.length := by
        rcases Nat.lt_or_ge i M.length with h' | h'
        · exact h'
        · rw [List.getElem?_eq_none h'] at hM; cases hM
      have hMi : M[i] = (none, C) := by rw [List.getElem?_eq_getElem hi] at hM; exact Option.some.inj hM
      by_cases e1 : i = j
      · simp [e1]
      · by_cases e2 : i = k
        · subst e2
          simp only [e1, if_true, if_false]
          rw [hMi] at hp
          exact hp
        · simp only [e1, e2, if_false]; exact hp
    · obtain ⟨j, hj, he⟩ := List.mem_iff_getElem.1 hb
      simp only [List.getElem_set] at he
      by_cases e1 : i = j
      · simp only [e1, if_true] at he; cases he
      · simp only [e1, if_false] at he
        exact s.mem.each b D (he ▸ List.getElem_mem _)
theorem Cv.freezeRows {A : Mem} {i : Nat} {gt : Gr Row} {rs : List Row} (hW : E.W = []) (hA : A[i]? = some (grM rowV gt rs)) :
  Cv E Γ (A ++ rs.map rowM) Γ (A.set i (gt.ob, cellM (rs.map (fun r => isP r.2) ++ gt.sp.map rowV))) := fun a w F s => by
 obtain ⟨F', hsub, s', hc⟩ := s.freezeRows hW rs F
 refine ⟨F', s'.memSetO hA fun o ⟨vs, ty, e, h⟩ => ⟨vs, ty, e, ?_⟩⟩
 rw [List.map_append] at h
 exact All2.conv (f := rowV) (g := fun r => isP r.2) (fun r hr v hv => hc r hr v hv) h
theorem rowsOf_all {R C K : Nat} {L : List Int} {rs : List Row} (hL : Bd L K) (h : rs.map Prod.snd = Go.En.rowsOf R C L) : (∀ r ∈ rs, r.2.length = C) ∧ ∀ r ∈ rs, Bd r.2 K := by
 have key : ∀ r ∈ rs, ∃ i, r.2 = (List.range C).map fun k => cf L (i * C + k) := by
  intro r hr
  have hm : r.2 ∈ rs.map Prod.snd := List.mem_map.2 ⟨r, hr, rfl⟩
  rw [h] at hm
  obtain ⟨i, _, e⟩ := List.mem_map.1 hm
  exact ⟨i, e.symm⟩
 refine ⟨fun r hr => ?_, fun r hr => ?_⟩
 ·obtain ⟨i, e⟩ := key r hr
  rw [e, List.length_map, List.length_range]
 ·obtain ⟨i, e⟩ := key r hr
  intro k
  rw [e, cf_tab]
  split
  ·exact hL _
  ·rw [Int.natAbs_zero, words_zero]; exact Nat.zero_le _
theorem rowsSl {rs : List Row} : SlL 1 rs.length (rs.map fun r => isP r.2) = SlM isP (rs.map Prod.snd) := by
 unfold SlM
 rw [List.length_map, List.map_map]; rfl
abbrev wkF (rows : List (List Int)) (C : Nat) (ps : List Nat) (last : Int) (odd : Bool) : VP := PtrL [SlM isP rows, isI (C : Int), SlM isI (pv ps), isB (decide (last < 0)), SlM isU (words last.natAbs), isB odd]
theorem Cv.freezeWk {t bw C : Nat} {gp : Gr Int} {gt : Gr Row} {rs : List Row} {ps : List Nat} {last : Int} {odd : Bool} (hW : E.W = []) (ht : look Γ t = some (isPtr bw 0)) :
  Cv E Γ (wkM bw gp gt rs C ps last odd) ((t, wkF (rs.map Prod.snd) C ps last odd) :: Γ) [] := by
 have h1 := Cv.freezeRows (E := E) (Γ := Γ) (A := [wk0 bw gp gt rs.length C ps last odd, grM isI gp (pv ps), grM rowV gt rs]) (i := 2) hW rfl
 refine Cv.trans h1 ?_
 have hl : rs.length * 1 ≤ (rs.map (fun r => isP r.2) ++ gt.sp.map rowV).length := by rw [List.length_append, List.length_map]; omega
 have he : (rs.map (fun r => isP r.2) ++ gt.sp.map rowV).take (rs.length * 1) = rs.map fun r => isP r.2 := by rw [Nat.mul_one, List.take_left' (by rw [List.length_map])]
 have h2 := Cv.freezeF (E := E) (Γ := Γ) (M := [wk0 bw gp gt rs.length C ps last odd, grM isI gp (pv ps), (gt.ob, cellM (rs.map (fun r => isP r.2) ++ gt.sp.map rowV))]) (k := 1) (i := 2) (j := 0) (o := 0) (g := gt) (n := rs.length) hW rfl rfl rfl hl he rfl
 refine Cv.trans h2 ?_
 have h3 := Cv.freezeF (E := E) (Γ := Γ) (M := [(some bw, cellM [SlL 1 rs.length (rs.map fun r => isP r.2), isI (C : Int), isGr gp (pv ps).length, isB (decide (last < 0)), SlM isU (words last.natAbs), isB odd]), grM isI gp (pv ps)]) (k := 1) (i := 1) (j := 0) (o := 2) (g := gp) (n := (pv ps).length) hW rfl rfl rfl gr_lenM gr_takeM rfl
 refine Cv.trans h3 ?_
 rw [rowsSl]
 exact Cv.freezeBox (i := 0) hW ht rfl
end
end Go.En
namespace Go.En
open Go.RowKit Go.Nt Go.Pz
def SlN (n0 : Nat) (xs : List Int) : VP := ⟨fun w F v => ∃ g : Gr (Bool × List Nat), (isGr g (xs.map nz).length).h w F v ∧ ∀ b, g.ob = some b → F b ∧ n0 ≤ b ∧ ∃ o, w.heap[b]? = some o ∧ (cellM ((xs.map nz ++ g.sp).flatMap zc)).h w F o,
 fun w w' F F' v h h1 h2 => by
  obtain ⟨g, hg, hb⟩ := h
  refine ⟨g, (isGr g _).mono _ _ _ _ _ hg h1 h2, fun b e => ?_⟩
  obtain ⟨g1, g2, o, g3, g4⟩ := hb b e
  exact ⟨h2 b g1, g2, o, (h1 b g1).trans g3, (cellM _).mono _ _ _ _ _ g4 h1 h2⟩⟩
instance {n0 : Nat} {xs : List Int} : IsSl (SlN n0 xs) (xs.map nz).length := ⟨fun w F v h => by
 obtain ⟨g, hg, _⟩ := h
 exact IsSl.sl (S := isGr g (xs.map nz).length) w F v hg⟩
instance {n0 : Nat} {xs : List Int} : One (SlN n0 xs) := ⟨fun w F v h => by
 obtain ⟨a, c, rfl, _⟩ := IsSl.sl (S := SlN n0 xs) w F v h
 rfl⟩
instance {n0 : Nat} {xs : List Int} : Shape (SlN n0 xs) [SlN n0 xs] := .of_one inferInstance
theorem SlN.sl {n0 : Nat} {xs : List Int} (w : World) (F : Blk) (v : Value) (h : (SlN n0 xs).h w F v) : (isP xs).h w F v := by
 obtain ⟨g, hg, hb⟩ := h
 rcases hg with ⟨_, h0, rfl⟩ | ⟨b, hob, rfl, h1, h2⟩
 ·refine ⟨none, 0, by rw [h0], by rw [h0]; exact Nat.le_refl _, by rw [maxLen_eq]; omega, by rw [flat_len zc_len], .inl h0⟩
 ·obtain ⟨g1, _, o, g3, vs, T', rfl, hv⟩ := hb b hob
  refine ⟨some ⟨b, 0, none⟩, g.c, rfl, by omega, h2, by rw [flat_len zc_len], .inr ⟨b, 0, rfl, g1, vs.take ((xs.map nz).length * 2), ?_, fun j u hj => ?_⟩⟩
  ·have := hv.take ((xs.map nz).length * 2)
   rwa [gr_takeK zc_len] at this
  ·have hj2 : j < (xs.map nz).length * 2 := by
    rcases Nat.lt_or_ge j ((xs.map nz).length * 2) with h | h
    ·exact h
    ·rw [List.getElem?_take_eq_none h] at hj; cases hj
   rw [List.getElem?_take_of_lt hj2] at hj
   simp [World.cell?, g3, hj]
section
variable {E : Env} {P : Program} {Γ : Ctx} {M : Mem} {ops : Array Oper} {Q : Exit → Act → World → Prop} {rest : List Oper}
theorem Has.wk {x : Operand} {S S' : VP} (h : Has E Γ M x S) (k : ∀ w F v, S.h w F v → S'.h w F v) : Has E Γ M x S' := fun a w F s => k _ _ _ (h a w F s)
theorem OK1.wk {o : Oper} {S S' : VP} (h : OK1 E P Γ M o S) (k : ∀ w F v, S.h w F v → S'.h w F v) : OK1 E P Γ M o S' := fun a w F s K Q hK => h a w F s K Q fun v w' F' ad hv => hK v w' F' ad (k _ _ _ hv)
theorem OKY.wk {o : Oper} {S S' : VP} (h : OKY E P Γ M o S) (k : ∀ w F v, S.h w F v → S'.h w F v) : OKY E P Γ M o S' := fun a w F s => by
 obtain ⟨v, h1, h2⟩ := h a w F s
 exact ⟨v, h1, k _ _ _ h2⟩
def junkV : VP := .pure fun v => ∃ r : Row, (r.1.ob = none ∧ (r.2.map nz).length = 0 ∧ v = .slice none 0 0) ∨ (∃ b, r.1.ob = some b ∧ v = .slice (some ⟨b, 0, none⟩) (r.2.map nz).length r.1.c ∧ (r.2.map nz).length + r.1.sp.length = r.1.c ∧ r.1.c ≤ maxLen)
def tN (n0 : Nat) : Option (List Int) → VP
 | some l => SlN n0 l
 | none => junkV
instance {n0 : Nat} : ∀ y, One (tN n0 y)
 | some l => (inferInstance : One (SlN n0 l))
 | none => ⟨fun w F v h => by rcases h with ⟨r, ⟨_, _, rfl⟩ | ⟨b, _, rfl, _⟩⟩ <;> rfl⟩
instance {n0 : Nat} (l : List Int) : Shape (tN n0 (some l)) [tN n0 (some l)] := .of_one inferInstance
abbrev gN (gt : Gr Row) : Gr (Option (List Int)) := ⟨gt.ob, gt.c, gt.sp.map fun _ => none⟩
theorem isGr_gN (gt : Gr Row) (n : Nat) : isGr (gN gt) n = isGr gt n := by
 unfold isGr gN
 rw [List.length_map]
theorem rows_of {n0 : Nat} {w : World} {F : Blk} : ∀ {ls : List (List Int)} {Us : List VP} {vs : List Value}, All2 (ls.map (SlN n0) ++ Us) w F vs →
    ∃ rs : List Row, rs.map Prod.snd = ls ∧ All2 (rs.map rowV ++ Us) w F vs ∧ ∀ r ∈ rs, ∀ b, r.1.ob = some b → F b ∧ n0 ≤ b ∧ ∃ o, w.heap[b]? = some o ∧ (cellM ((r.2.map nz ++ r.1.sp).flatMap zc)).h w F o
  | [], Us, vs, h => ⟨[], rfl, h, by simp⟩
  | l :: ls, Us, v :: vs, h => by
    obtain ⟨rs, h1, h2, h3⟩ := rows_of h.2
    obtain ⟨g, hg, hb⟩ := h.1
    refine ⟨(g, l) :: rs, by rw [List.map_cons, h1], ⟨hg, h2⟩, fun r hr => ?_⟩
    rcases List.mem_cons.1 hr with rfl | hr
    · exact hb
    · exact h3 r hr
  | _ :: _, _, [], h => h.elim
theorem junk_of {n0 : Nat} {w : World} {F : Blk} : ∀ {sp : List (Option (List Int))} {vs : List Value}, All2 (sp.map (tN n0)) w F vs → ∃ sp3 : List Row, sp3.length = sp.length ∧ All2 (sp3.map rowV) w F vs
  | [], [], _ => ⟨[], rfl, trivial⟩
  | x :: sp, v :: vs, h => by
    obtain ⟨sp3, h1, h2⟩ := junk_of h.2
    have hr : ∃ r : Row, (rowV r).h w F v := by
      cases x with
      | some l => obtain ⟨g, hg, _⟩ := h.1; exact ⟨(g, l), hg⟩
      | none => exact h.1
    obtain ⟨r, hr⟩ := hr
    exact ⟨r :: sp3, by rw [List.length_cons, List.length_cons, h1], hr, h2⟩
  | [], _ :: _, h => h.elim
  | _ :: _, [], h => h.elim
theorem All2.app {w : World} {F : Blk} : ∀ {As Bs : List VP} {vs : List Value}, All2 (As ++ Bs) w F vs → ∃ v1 v2, vs = v1 ++ v2 ∧ All2 As w F v1 ∧ All2 Bs w F v2
  | [], Bs, vs, h => ⟨[], vs, rfl, trivial, h⟩
  | A :: As, Bs, v :: vs, h => by
    obtain ⟨v1, v2, e, h1, h2⟩ := All2.app h.2
    exact ⟨v :: v1, v2, by rw [e]; rfl, ⟨h.1, h1⟩, h2⟩
  | _ :: _, _, [], h => h.elim
def RowCell (w : World) (F : Blk) (b : Nat) : Prop := ∃ o, w.heap[b]? = some o ∧ ∃ ys : List (Bool × List Nat), (cellM (ys.flatMap zc)).h w F o
theorem zc_cell {w : World} {F : Blk} : ∀ {ys : List (Bool × List Nat)} {vs : List Value}, All2 (ys.flatMap zc) w F vs → ∀ (j : Nat) u, vs[j]? = some u → (∃ x, u = .bool x) ∨ ∃ ws, (isWords ws).h w F u
  | [], [], _, j, u, hj => by simp at hj
  | [], _ :: _, h, _, _, _ => h.elim
  | y :: ys, vs, h, j, u, hj => by
    match vs, h with
    | [], h => exact h.elim
    | [_], h => exact h.2.elim
    | v1 :: v2 :: vs, h =>
      match j with
      | 0 => simp at hj; subst hj; exact .inl ⟨_, h.1⟩
      | 1 => simp at hj; subst hj; exact .inr ⟨_, h.2.1⟩
      | j + 2 => exact zc_cell (ys := ys) h.2.2 j u (by simpa using hj)
theorem RowCell.at {w : World} {F : Blk} {b : Nat} (h : RowCell w F b) {j : Nat} {u : Value} (hc : w.cell? ⟨b, j, none⟩ = some u) : (∃ x, u = .bool x) ∨ ∃ ws, (isWords ws).h w F u := by
 obtain ⟨o, ho, ys, vs, T', rfl, hv⟩ := h
 exact zc_cell hv j u (by simpa [World.cell?, ho] using hc)
theorem words_off {w : World} {F : Blk} {Rb : Nat → Prop} (hR : ∀ b, Rb b → RowCell w F b) {ws : List Nat} {v : Value} (h : (isWords ws).h w F v) : (isWords ws).h w (fun b => F b ∧ ¬ Rb b) v := by
  obtain ⟨a, cap, e, g1, g2, g3, g4⟩ := h
  refine ⟨a, cap, e, g1, g2, g3, ?_⟩
  rcases g4 with g4 | ⟨b, off, rfl, hF, vs, hv, hc⟩
  · exact .inl g4
  · match ws, vs, hv with
    | [], _, _ => exact .inl rfl
    | x :: ws, [], hv => exact hv.elim
    | x :: ws, u :: vs, hv =>
      refine .inr ⟨b, off, rfl, ⟨hF, fun hRb => ?_⟩, u :: vs, ?_, hc⟩
      · have h0 := hc 0 u (by simp)
        rcases (hR b hRb).at h0 with ⟨y, rfl⟩ | ⟨ws', hw⟩
        · have := hv.1.1; cases this
        · obtain ⟨a', c', e', _⟩ := hw
          have := hv.1.1
          rw [e'] at this; cases this
      · have : ∀ {xs : List Nat} {vs : List Value} {G : Blk}, All2 (xs.map isU) w F vs → All2 (xs.map isU) w G vs := fun {xs vs G} h => All2.convB (F := F) (F' := G) (f := isU) (g := isU) (fun _ _ _ h => h) h
        exact this hv
theorem zc_off {w : World} {F : Blk} {Rb : Nat → Prop} (hR : ∀ b, Rb b → RowCell w F b) : ∀ {ys : List (Bool × List Nat)} {vs : List Value}, All2 (ys.flatMap zc) w F vs → All2 (ys.flatMap zc) w (fun b => F b ∧ ¬ Rb b) vs
  | [], [], _ => trivial
  | [], _ :: _, h => h.elim
  | y :: ys, vs, h => by
    match vs, h with
    | [], h => exact h.elim
    | [_], h => exact h.2.elim
    | v1 :: v2 :: vs, h => exact ⟨h.1, words_off hR h.2.1, zc_off hR (ys := ys) h.2.2⟩
theorem zc_at {w : World} {F : Blk} : ∀ {ys : List (Bool × List Nat)} {vs : List Value} {k : Nat} {p : Bool × List Nat}, All2 (ys.flatMap zc) w F vs → ys[k]? = some p → ∃ u, vs[2 * k + 1]? = some u ∧ (isWords p.2).h w F u
  | [], _, k, p, _, hk => by simp at hk
  | y :: ys, vs, k, p, h, hk => by
    match vs, h with
    | [], h => exact h.elim
    | [_], h => exact h.2.elim
    | v1 :: v2 :: vs, h =>
      match k with
      | 0 => simp at hk; subst hk; exact ⟨v2, rfl, h.2.1⟩
      | k + 1 =>
        obtain ⟨u, h1, h2⟩ := zc_at (ys := ys) h.2.2 (k := k) (by simpa using hk)
        exact ⟨u, by rw [← h1]; rfl, h2⟩
def Differ (l l' : List Int) : Prop := ∃ k, k < l.length ∧ k < l'.length ∧ ((cf l k = 0 ∧ cf l' k ≠ 0) ∨ (cf l k ≠ 0 ∧ cf l' k = 0))
theorem differ_blk {w : World} {F : Blk} {l l' : List Int} {s s' : List (Bool × List Nat)} {o : Obj} (hd : Differ l l') (h1 : (cellM ((l.map nz ++ s).flatMap zc)).h w F o) (h2 : (cellM ((l'.map nz ++ s').flatMap zc)).h w F o) : False := by
 obtain ⟨k, hk, hk', hd⟩ := hd
 obtain ⟨vs, T, rfl, hv⟩ := h1
 obtain ⟨vs', T', e, hv'⟩ := h2
 have e2 : vs = vs' := by injection e with e3; exact List.toArray_inj e3
 subst e2
 obtain ⟨u, hu, a, c, eu, _⟩ := zc_at (k := k) (p := nz (cf l k)) hv (by rw [List.getElem?_append_left (by rw [List.length_map]; exact hk)]; exact getZ hk)
 obtain ⟨u', hu', a', c', eu', _⟩ := zc_at (k := k) (p := nz (cf l' k)) hv' (by rw [List.getElem?_append_left (by rw [List.length_map]; exact hk')]; exact getZ hk')
 rw [hu] at hu'
 obtain rfl := Option.some.inj hu'
 rw [eu] at eu'
 injection eu' with _ e3 _
 have h0 : ∀ z : Int, (words z.natAbs).length = 0 ↔ z = 0 := fun z => by
  constructor
  ·intro h
   rcases Nat.eq_zero_or_pos z.natAbs with h0 | h0
   ·omega
   ·have := nw_pos (n := z.natAbs) (by omega)
    change (words z.natAbs).length = _ at this
    omega
  ·rintro rfl; rw [Int.natAbs_zero, words_zero]; rfl
 have i1 := h0 (cf l k)
 have i2 := h0 (cf l' k)
 change (words (cf l k).natAbs).length = (words (cf l' k).natAbs).length at e3
 rcases hd with ⟨d1, d2⟩ | ⟨d1, d2⟩
 ·exact d2 (i2.1 (by rw [← e3]; exact i1.2 d1))
 ·exact d1 (i1.1 (by rw [e3]; exact i2.2 d2))
theorem Sat.rowsN {a : Act} {w : World} {F : Blk} {A : Mem} {rs : List Row} (hW : E.W = []) (s : Sat E Γ (A ++ rs.map rowM) a w F) :
  ∃ F', (∀ b, F b → F' b) ∧ Sat E Γ A a w F' ∧ ∀ r ∈ rs, ∀ v, (rowV r).h w F v → (SlN E.w0.heap.size r.2).h w F' v := by
 have hsub : ∀ k, F k → (F k ∨ ∃ r ∈ rs, r.1.ob = some k) := fun k hk => .inl hk
 have hrow : ∀ r ∈ rs, ∀ b, r.1.ob = some b → E.w0.heap.size ≤ b ∧ b < w.heap.size ∧ ∃ o, w.heap[b]? = some o ∧ (cellM ((r.2.map nz ++ r.1.sp).flatMap zc)).h w F o := fun r hr b hb => by
  have hm : (some b, cellM ((r.2.map nz ++ r.1.sp).flatMap zc)) ∈ A ++ rs.map rowM := List.mem_append_right _ (List.mem_map.2 ⟨r, hr, by rw [← hb]; rfl⟩)
  obtain ⟨h1, h2, _, h4⟩ := s.mem.each _ _ hm
  rw [hW] at h1
  exact ⟨h1.resolve_right (by simp), h2, h4⟩
 have hap := List.pairwise_append.1 s.mem.apart
 refine ⟨_, hsub, { defers := s.defers, size := s.size, keep := s.keep, f0 := fun k hk => .inl (s.f0 k hk), fnew := ?_, flt := ?_, slots := fun t S ht => S.mono _ _ _ _ _ (s.slots t S ht) (fun _ _ => rfl) hsub, mem := ⟨hap.1, ?_⟩ }, ?_⟩
 ·rintro k (hk | ⟨r, hr, hb⟩)
  ·exact s.fnew k hk
  ·obtain ⟨h1, h2, _⟩ := hrow r hr k hb; exact .inr ⟨h1, h2⟩
 ·rintro k (hk | ⟨r, hr, hb⟩)
  ·exact s.flt k hk
  ·exact (hrow r hr k hb).2.1
 ·intro k C hk
  obtain ⟨g1, g2, g3, o2, g4, g5⟩ := s.mem.each k C (List.mem_append_left _ hk)
  refine ⟨g1, g2, ?_, o2, g4, C.mono _ _ _ _ _ g5 (fun _ _ => rfl) hsub⟩
  rintro (h | ⟨r, hr, hb⟩)
  ·exact g3 h
  ·rcases hap.2.2 _ hk _ (List.mem_map.2 ⟨r, hr, rfl⟩) with h | h
   ·cases h
   ·exact h hb.symm
 ·intro r hr v hv
  refine ⟨r.1, hv, fun b hb => ?_⟩
  obtain ⟨h1, h2, o, h3, h4⟩ := hrow r hr b hb
  exact ⟨.inr ⟨r, hr, hb⟩, h1, o, h3, (cellM _).mono _ _ _ _ _ h4 (fun _ _ => rfl) hsub⟩
theorem All2.conv2 {α β : Type} {f : α → VP} {g : β → VP} {c : α → β} {w : World} {F F' : Blk} : ∀ {xs : List α} {vs : List Value}, (∀ x ∈ xs, ∀ v, (f x).h w F v → (g (c x)).h w F' v) → All2 (xs.map f) w F vs → All2 ((xs.map c).map g) w F' vs
 | [], [], _, _ => trivial
 | [], _ :: _, _, h => h.elim
 | x :: xs, v :: vs, hc, h => ⟨hc x (by simp) v h.1, All2.conv2 (fun y hy => hc y (by simp [hy])) h.2⟩
 | _ :: _, [], _, h => h.elim
theorem All2.join {w : World} {F : Blk} : ∀ {As Bs : List VP} {v1 v2 : List Value}, All2 As w F v1 → All2 Bs w F v2 → All2 (As ++ Bs) w F (v1 ++ v2)
 | [], Bs, [], v2, _, h => h
 | [], _, _ :: _, _, h, _ => h.elim
 | A :: As, Bs, v :: v1, v2, h, k => ⟨h.1, All2.join h.2 k⟩
 | _ :: _, _, [], _, h, _ => h.elim
theorem Cv.triN {t bt n n' : Nat} {m : Bool} {ws : List Nat} {gt : Gr Row} {rs : List Row} {Mr : Mem} (hW : E.W = []) (hn : n = rs.length) (hn' : rs.length = n') (ht : look Γ t = some (isPtr bt 0)) :
  Cv E Γ (((some bt, cellM [isGr gt n, isB m, SlM isU ws]) :: grM rowV gt rs :: rs.map rowM) ++ Mr) ((t, PtrL [isGr (gN gt) n', isB m, SlM isU ws]) :: Γ) (grM (tN E.w0.heap.size) (gN gt) (rs.map fun r : Row => some r.2) :: Mr) := fun a w F s0 => by
 subst hn; subst hn'
 have hp : (((some bt, cellM [isGr gt rs.length, isB m, SlM isU ws]) :: grM rowV gt rs :: rs.map rowM) ++ Mr).Perm (((some bt, cellM [isGr gt rs.length, isB m, SlM isU ws]) :: grM rowV gt rs :: Mr) ++ rs.map rowM) := by
  simp only [List.cons_append]
  exact (List.perm_append_comm.cons _).cons _
 obtain ⟨F0, s1⟩ := Cv.perm (E := E) (Γ := Γ) hp a w F s0
 obtain ⟨F1, h1, s2, h3⟩ := Sat.rowsN hW s1
 have s3 := s2.memSetO (i := 1) (ob := gt.ob) (C := cellM ((rs ++ gt.sp).map rowV)) (C' := cellM (((rs.map fun r : Row => some r.2) ++ (gt.sp.map fun _ => none)).map (tN E.w0.heap.size))) rfl (by
  rintro o ⟨vs, T', e, hv⟩
  refine ⟨vs, T', e, ?_⟩
  rw [List.map_append] at hv
  obtain ⟨v1, v2, rfl, k1, k2⟩ := All2.app hv
  rw [List.map_append]
  exact All2.join (All2.conv2 (F := F1) (F' := F1) (f := rowV) (g := tN E.w0.heap.size) (c := fun r : Row => some r.2) (fun r hr v hv => h3 r hr v hv) k1) (All2.conv2 (F := F1) (F' := F1) (f := rowV) (g := tN E.w0.heap.size) (c := fun _ => none) (fun r _ v hv => ⟨r, hv⟩) k2))
 obtain ⟨F2, s4⟩ := Cv.freezeBox (E := E) (Γ := Γ) (i := 0) hW ht rfl a w F1 s3
 rw [isGr_gN]
 exact ⟨F2, s4⟩
theorem Sat.thaw {a : Act} {w : World} {F : Blk} {t n : Nat} {m : Bool} {ws : List Nat} {gt : Gr (Option (List Int))} {ls : List (List Int)} {Mr : Mem} (hW : E.W = []) (hF : ∀ k, E.F0 k → k < E.w0.heap.size)
    (s : Sat E Γ (grM (tN E.w0.heap.size) gt (ls.map some) :: Mr) a w F) (ht : look Γ t = some (PtrL [isGr gt n, isB m, SlM isU ws])) (hn : n = ls.length) (hd : ls.Pairwise Differ) :
    ∃ (gt3 : Gr Row) (rs : List Row) (F' : Blk), rs.map Prod.snd = ls ∧ Sat E [(t, PtrL [isGr gt3 n, isB m, SlM isU ws])] (grM rowV gt3 rs :: rs.map rowM) a w F' := by
  subst hn
  obtain ⟨bt, ot, et, hFt, tv, hv, hc⟩ := s.slots t _ ht
  match tv, hv with
  | [], hv => exact hv.elim
  | [_], hv => exact hv.2.elim
  | [_, _], hv => exact hv.2.2.elim
  | _ :: _ :: _ :: _ :: _, hv => exact hv.2.2.2.elim
  | [u0, u1, u2], hv =>
  have huw : (SlM isU ws).h w F u2 := hv.2.2.1
  cases hob : gt.ob with
  | none =>
    have h0 : ls = [] ∧ u0 = .slice none 0 0 := by
      rcases hv.1 with ⟨_, h, e⟩ | ⟨b, hb, _⟩
      · exact ⟨List.eq_nil_of_length_eq_zero h, e⟩
      · rw [hob] at hb; cases hb
    obtain ⟨rfl, rfl⟩ := h0
    refine ⟨Gr.nil, [], F, rfl, { s with slots := fun t' S' h' => ?_, mem := ⟨?_, ?_⟩ }⟩
    · simp only [look] at h'
      cases hb : Nat.beq t t' with
      | false => rw [hb] at h'; cases h'
      | true =>
        rw [hb] at h'
        obtain rfl := Option.some.inj h'
        obtain rfl := Nat.eq_of_beq_eq_true hb
        exact ⟨bt, ot, et, hFt, [.slice none 0 0, u1, u2], ⟨.inl ⟨rfl, rfl, rfl⟩, hv.2⟩, hc⟩
    · exact List.pairwise_singleton _ _
    · intro b C hb
      rw [List.map_nil, List.mem_singleton] at hb
      cases hb
  | some bo =>
    have hm : (some bo, cellM ((ls.map some ++ gt.sp).map (tN E.w0.heap.size))) ∈ grM (tN E.w0.heap.size) gt (ls.map some) :: Mr := by
      unfold grM; rw [hob]; exact List.mem_cons_self
    obtain ⟨b1, b2, b3, o, b4, vs, T', rfl, hvs⟩ := s.mem.each _ _ hm
    rw [List.map_append, List.map_map] at hvs
    obtain ⟨rs, r1, r2, r3⟩ := rows_of (ls := ls) (n0 := E.w0.heap.size) (Us := gt.sp.map (tN E.w0.heap.size)) hvs
    obtain ⟨v1, v2, rfl, k1, k2⟩ := All2.app r2
    obtain ⟨sp3, p1, p2⟩ := junk_of k2
    have hob0 : ∀ r ∈ rs, ∀ b, r.1.ob = some b → b ≠ bo := fun r hr b hb e => b3 (e ▸ (r3 r hr b hb).1)
    have hRc : ∀ b, (∃ r ∈ rs, r.1.ob = some b) → RowCell w F b := fun b ⟨r, hr, hb⟩ => by
      obtain ⟨_, _, o, h3, h4⟩ := r3 r hr b hb
      exact ⟨o, h3, _, h4⟩
    have hgl : ls.length + gt.sp.length = gt.c ∧ gt.c ≤ maxLen ∧ u0 = .slice (some ⟨bo, 0, none⟩) ls.length gt.c := by
      rcases hv.1 with ⟨h, _⟩ | ⟨b, hb, e, h1, h2⟩
      · rw [hob] at h; cases h
      · rw [hob] at hb; obtain rfl := Option.some.inj hb
        exact ⟨h1, h2, e⟩
    have hbtR : ¬ ∃ r ∈ rs, r.1.ob = some bt := fun ⟨r, hr, hb⟩ => by
      have h0 := hc 0 u0 rfl
      rw [hgl.2.2] at h0
      rcases (hRc bt ⟨r, hr, hb⟩).at h0 with ⟨x, e⟩ | ⟨ws', a', c', e, _, _, _, h5⟩
      · cases e
      · injection e with e1 e2 e3
        rcases h5 with h5 | ⟨b', off', e', hF', _⟩
        · have : rs.length = ls.length := by rw [← r1, List.length_map]
          have hrl : 0 < rs.length := List.length_pos_of_mem hr
          omega
        · rw [← e1] at e'
          injection e' with e'; injection e' with e'
          exact b3 (e' ▸ hF')
    have hap : rs.Pairwise fun r r' => Differ r.2 r'.2 := by rw [← r1] at hd; exact List.pairwise_map.1 hd
    refine ⟨⟨some bo, gt.c, sp3⟩, rs, fun b => F b ∧ ¬ ∃ r ∈ rs, r.1.ob = some b, r1, { defers := s.defers, size := s.size, keep := s.keep, f0 := ?_, fnew := fun k hk => s.fnew k hk.1, flt := fun k hk => s.flt k hk.1, slots := ?_, mem := ⟨?_, ?_⟩ }⟩
    · rintro k hk
      refine ⟨s.f0 k hk, fun ⟨r, hr, hb⟩ => ?_⟩
      have h1 := hF k hk
      have h2 := (r3 r hr k hb).2.1
      omega
    · intro t' S' h'
      simp only [look] at h'
      cases hb : Nat.beq t t' with
      | false => rw [hb] at h'; cases h'
      | true =>
        rw [hb] at h'
        obtain rfl := Option.some.inj h'
        obtain rfl := Nat.eq_of_beq_eq_true hb
        refine ⟨bt, ot, et, ⟨hFt, hbtR⟩, [u0, u1, u2], ⟨.inr ⟨bo, rfl, hgl.2.2, ?_, hgl.2.1⟩, hv.2.1, words_off hRc huw, trivial⟩, hc⟩
        show ls.length + sp3.length = gt.c
        rw [p1]; exact hgl.1
    · refine List.Pairwise.cons ?_ ?_
      · intro x hx
        obtain ⟨r, hr, rfl⟩ := List.mem_map.1 hx
        exact .inr fun e => hob0 r hr bo e.symm rfl
      · refine List.pairwise_map.2 (hap.imp_of_mem fun {r r'} hr hr' hd => ?_)
        cases h1 : r.1.ob with
        | none => exact .inl h1
        | some b =>
          refine .inr fun e => ?_
          change r.1.ob = r'.1.ob at e
          rw [h1] at e
          obtain ⟨_, _, o, g1, g2⟩ := r3 r hr b h1
          obtain ⟨_, _, o', g1', g2'⟩ := r3 r' hr' b e.symm
          rw [g1] at g1'
          obtain rfl := Option.some.inj g1'
          exact differ_blk hd g2 g2'
    · intro b C hb
      rcases List.mem_cons.1 hb with hb | hb
      · have e1 : b = bo := by injection hb with e _; exact Option.some.inj e
        have e2 : C = cellM ((rs ++ sp3).map rowV) := by injection hb
        subst e1; subst e2
        refine ⟨b1, b2, fun h => b3 h.1, _, b4, v1 ++ v2, T', rfl, ?_⟩
        rw [List.map_append]
        have hp : ∀ {l : List Row} {u : List Value} {G : Blk}, All2 (l.map rowV) w F u → All2 (l.map rowV) w G u := fun {l u G} h => All2.convB (F := F) (F' := G) (f := rowV) (g := rowV) (fun _ _ _ h => h) h
        exact All2.join (hp k1) (hp p2)
      · obtain ⟨r, hr, e⟩ := List.mem_map.1 hb
        have e1 : r.1.ob = some b := by injection e
        have e2 : C = cellM ((r.2.map nz ++ r.1.sp).flatMap zc) := by injection e with _ e; exact e.symm
        subst e2
        obtain ⟨h1, h2, o, h3, vs', T2, rfl, h4⟩ := r3 r hr b e1
        exact ⟨.inl h2, s.flt b h1, fun h => h.2 ⟨r, hr, e1⟩, _, h3, vs', T2, rfl, zc_off hRc h4⟩
theorem Tri.thaw {c : Code} {t n : Nat} {m : Bool} {ws : List Nat} {gt : Gr (Option (List Int))} {ls : List (List Int)} {Mr : Mem} (hW : E.W = []) (hF : ∀ k, E.F0 k → k < E.w0.heap.size) (ht : look Γ t = some (PtrL [isGr gt n, isB m, SlM isU ws])) (hn : n = ls.length) (hd : ls.Pairwise Differ)
  (k : ∀ (gt3 : Gr Row) (rs : List Row), rs.map Prod.snd = ls → Tri E P c [(t, PtrL [isGr gt3 n, isB m, SlM isU ws])] (grM rowV gt3 rs :: rs.map rowM) Q) : Tri E P c Γ (grM (tN E.w0.heap.size) gt (ls.map some) :: Mr) Q := fun a w F s => by
 obtain ⟨gt3, rs, F', h1, h2⟩ := s.thaw hW hF ht hn hd
 exact k gt3 rs h1 a w F' h2
theorem CtrX.toN {f : FuncId} {args args' : List VP} {n0 : Nat} {L : List Int} (h : CtrX P f args [] fun S M => ∃ b, S = isWin b 0 L.length L.length ∧ M = [(some b, cellM ((L.map nz).flatMap zc))]) (ha : ∀ w F vs, All2 args' w F vs → All2 args w F vs ∧ ∃ b, F b ∧ n0 ≤ b) :
  Ctr P f args' (SlN n0 L) :=
 ⟨h.1, fun w F vs hF hargs => by
  obtain ⟨h1, b0, hb0, hn0⟩ := ha w F vs hargs
  refine (h.2 w F vs hF ⟨List.Pairwise.nil, by simp⟩ h1).mono ?_
  rintro e w' ⟨v, S', M', F', rfl, ⟨b, rfl, rfl⟩, hk, hsub, hnew, hv, hap, heach⟩
  obtain ⟨g1, g2, g3, o, g4, g5⟩ := heach b _ (List.mem_singleton.2 rfl)
  have hbw : w.heap.size ≤ b := g1.resolve_right (by simp [blks])
  have hlt := hF b0 hb0
  refine ⟨v, rfl, hk, ⟨⟨some b, L.length, []⟩, .inr ⟨b, rfl, ?_, ?_, hv.2.2⟩, fun b' hb' => ?_⟩⟩
  ·rw [List.length_map]; exact hv.1
  ·rw [List.length_map]; rfl
  ·obtain rfl := Option.some.inj hb'
   refine ⟨.inr ⟨hbw, g2⟩, by omega, o, g4, ?_⟩
   rw [List.append_nil]
   refine (cellM _).mono _ _ _ _ _ g5 (fun _ _ => rfl) hnew⟩
theorem SlN.new {n0 : Nat} {xs : List Int} {w : World} {F : Blk} {v : Value} (h : (SlN n0 xs).h w F v) (hx : 0 < xs.length) : ∃ b, F b ∧ n0 ≤ b := by
 obtain ⟨g, hg, hb⟩ := h
 rcases hg with ⟨_, h0, _⟩ | ⟨b, hob, _⟩
 ·rw [List.length_map] at h0; omega
 ·obtain ⟨h1, h2, _⟩ := hb b hob
  exact ⟨b, h1, h2⟩
theorem CtrX.introF {f : FuncId} {fn : Func} {c : Code} {args : List VP} {M : Mem} {R : VP → Mem → Prop} (hf : P.funcs[f]? = some fn) (hb : fn.body = some c) (hn : (fn.name == "runtime.NumGoroutine") = false) {nt : Nat} (hnt : fn.ntmps = nt)
  (hsz : Nat.ble args.length nt = true) (h : ∀ w F, (∀ k, F k → k < w.heap.size) → Tri ⟨w, F, blks M, nt⟩ P c (argsCtx 0 args) M (bodyPost P fn (RetX w F (blks M) R))) : CtrX P f args M R := by
 by_cases hh : ∀ w F, Tri ⟨w, F, blks M, nt⟩ P c (argsCtx 0 args) M (bodyPost P fn (RetX w F (blks M) R))
 ·exact CtrX.intro hf hb hn hnt hsz hh
 ·refine ⟨⟨fn, hf, by simp [hb], hn⟩, fun w F vs hF hm hargs => ?_⟩
  subst hnt
  have hlen := hargs.len
  have hsz' : args.length ≤ fn.ntmps := by simpa using Nat.le_of_ble_eq_true hsz
  refine calls_of_wp hf hb (h w F hF _ w F ?_)
  refine { defers := rfl, size := ?_, keep := Keep.refl _ _, f0 := fun _ h => h, fnew := fun _ h => .inl h, flt := hF, slots := ?_, mem := ⟨hm.apart, fun k C hk => ?_⟩ }
  ·simp; omega
  ·intro t S ht
   obtain ⟨_, h2⟩ := look_args args 0 t S ht
   obtain ⟨v, hv, hS⟩ := hargs.get t S (by simpa using h2)
   have : (vs.toArray ++ Array.replicate (fn.ntmps - vs.toArray.size) undef).getD t undef = v := by
    have hlt : t < vs.length := by
     rcases Nat.lt_or_ge t vs.length with h | h
     ·exact h
     ·simp [List.getElem?_eq_none h] at hv
    have e : vs[t] = v := by rw [List.getElem?_eq_getElem hlt] at hv; exact Option.some.inj hv
    simp [Array.getElem?_append, hlt, e]
   rw [this]; exact hS
  ·obtain ⟨h1, h2, h3⟩ := hm.each k C hk
   exact ⟨.inr (mem_blks.2 ⟨C, hk⟩), h1, h2, h3⟩
theorem Cv.memEq {M' : Mem} (h : M = M') : Cv E Γ M Γ M' := h ▸ Cv.refl
theorem CtrX.toP {f : FuncId} {args : List VP} {L : List Int} (h : CtrX P f args [] fun S M => ∃ b, S = isWin b 0 L.length L.length ∧ M = [(some b, cellM ((L.map nz).flatMap zc))]) : Ctr P f args (isP L) :=
 ⟨h.1, fun w F vs hF hargs => by
  refine (h.2 w F vs hF ⟨List.Pairwise.nil, by simp⟩ hargs).mono ?_
  rintro e w' ⟨v, S', M', F', rfl, ⟨b, rfl, rfl⟩, hk, hsub, hnew, hv, hap, heach⟩
  obtain ⟨g1, g2, g3, o, g4, g5⟩ := heach b _ (List.mem_singleton.2 rfl)
  have hbw : w.heap.size ≤ b := g1.resolve_right (by simp [blks])
  refine ⟨v, rfl, hk, SlN.sl (n0 := 0) _ _ _ ⟨⟨some b, L.length, []⟩, .inr ⟨b, rfl, ?_, ?_, hv.2.2⟩, fun b' hb' => ?_⟩⟩
  ·rw [List.length_map]; exact hv.1
  ·rw [List.length_map]; rfl
  ·obtain rfl := Option.some.inj hb'
   refine ⟨.inr ⟨hbw, g2⟩, Nat.zero_le _, o, g4, ?_⟩
   rw [List.append_nil]
   refine (cellM _).mono _ _ _ _ _ g5 (fun _ _ => rfl) hnew⟩
theorem Cv.winRow {t b n i : Nat} {xs ys : List (Bool × List Nat)} (ht : look Γ t = some (isWin b 0 n n)) (hM : M[i]? = some (some b, cellM (xs.flatMap zc))) (hy : xs = ys) (hl : ys.length = n) :
  Cv E Γ M ((t, isGr (⟨some b, n, []⟩ : Gr (Bool × List Nat)) ys.length) :: Γ) (M.set i (grMK zc ⟨some b, n, []⟩ ys)) := by
 subst hy
 have h := Cv.winGrK (E := E) (fk := zc) (ys := xs) ht hM (by omega) hl (by rw [List.take_of_length_le (by omega)])
 rwa [List.drop_eq_nil_of_le (by omega)] at h
theorem Cv.freezeTri {t n : Nat} {m : Bool} {ws : List Nat} {gt : Gr Row} {rs : List Row} (hW : E.W = []) (hn : n = rs.length) (ht : look Γ t = some (PtrL [isGr gt n, isB m, SlM isU ws])) :
    Cv E Γ (grM rowV gt rs :: rs.map rowM) ((t, PtrL [SlM isP (rs.map Prod.snd), isB m, SlM isU ws]) :: Γ) [] := fun a w F s => by
  subst hn
  obtain ⟨F1, s1⟩ := Cv.freezeRows (E := E) (Γ := Γ) (A := [grM rowV gt rs]) (i := 0) hW rfl a w F s
  have hl : rs.length * 1 ≤ (rs.map (fun r => isP r.2) ++ gt.sp.map rowV).length := by rw [List.length_append, List.length_map]; omega
  have he : (rs.map (fun r => isP r.2) ++ gt.sp.map rowV).take (rs.length * 1) = rs.map fun r => isP r.2 := by rw [Nat.mul_one, List.take_left' (by rw [List.length_map])]
  obtain ⟨F2, hsub, s2, hc⟩ := s1.freezeGr (k := 1) (g := gt) (n := rs.length) (i := 0) hW rfl hl he
  obtain ⟨b, off, e, hF, vs, hv, hcell⟩ := s1.slots t _ ht
  refine ⟨F2, { s2 with slots := fun t' S' h' => ?_ }⟩
  simp only [look] at h'
  cases hb : Nat.beq t t' with
  | false => rw [hb] at h'; exact s2.slots t' S' h'
  | true =>
    rw [hb] at h'
    obtain rfl := Option.some.inj h'
    obtain rfl := Nat.eq_of_beq_eq_true hb
    match vs, hv with
    | [], hv => exact hv.elim
    | u :: vs, hv =>
      refine ⟨b, off, e, hsub b hF, u :: vs, ⟨?_, All2.mono (fun _ _ => rfl) hsub _ _ hv.2⟩, hcell⟩
      rw [← rowsSl]
      exact hc u hv.1
end
end Go.En
namespace Go.Proofs.Ythkdmhaafanjlaa
open Go.En Go.RowKit
set_option maxRecDepth 10000
set_option maxHeartbeats 4000000
open Go.Nt
theorem zint_Xgcd {m n : Bool} {xs ys : List Nat} (hx : (List.length (words (val xs))) ≤ 100000000) (hy : (List.length (words (val ys))) ≤ 100000000) (hb : zv n ys ≠ 0) : Ctr Try.prog 88 [Flat [isB m, isWords xs], Flat [isB n, isWords ys]] (isTup [isZ ((Nat.gcd (zv m xs).natAbs (zv n ys).natAbs : Nat) : Int), isZ (xg (zv m xs) (zv n ys)), isZ (if zv n ys ≠ 0 ∧ (((Nat.gcd (zv m xs).natAbs (zv n ys).natAbs : Nat) : Int) - xg (zv m xs) (zv n ys) * zv m xs).tmod (zv n ys) = 0 then (((Nat.gcd (zv m xs).natAbs (zv n ys).natAbs : Nat) : Int) - xg (zv m xs) (zv n ys) * zv m xs).tdiv (zv n ys) else 0)]) := by
 refine Ctr.intro Try.func88 rfl (by kernel_rfl) Try.ntmps88 rfl fun w0 F0 => ?_
 refine .cv (Cv.wk (.k 0 rfl (.k 1 rfl .nil))) ?_
 refine .fact (Has.okZ (Has.t (t := 0) rfl)) fun okz0 => ?_
 refine .fact (Has.okZ (Has.t (t := 1) rfl)) fun okz1 => ?_
 have hxx := zv_nw m xs
 have hyy := zv_nw n ys
 have h1 := nz_one
 have hcof := cof_all (zv m xs) (zv n ys)
 have hg1 := hcof.1
 obtain ⟨g, hge⟩ : ∃ g : Int, g = ((Nat.gcd (zv m xs).natAbs (zv n ys).natAbs : Nat) : Int) := ⟨_, rfl⟩
 have hgn : (List.length (words g.natAbs)) ≤ 100000000 := by rw [hge, Int.natAbs_natCast]; exact Nat.le_trans (nw_mono (Nat.gcd_le_right _ (by omega))) (by omega)
 obtain ⟨c, hce⟩ : ∃ c, c = (cof (zv m xs) (zv n ys) 1 0).2 := ⟨_, rfl⟩
 have hcn : (List.length (words c.natAbs)) ≤ 100000000 := by rw [hce]; exact Nat.le_trans (nw_mono hcof.2.2) (Nat.le_trans (nw_max _ _) (by have := nw_one; omega))
 obtain ⟨sp, hst⟩ : ∃ sp : Int, sp = ((zv n ys).natAbs : Int) / g := ⟨_, rfl⟩
 have hsp : 0 < sp := by rw [hst, hge]; exact step_pos hb
 have hsn : (List.length (words sp.natAbs)) ≤ 100000000 := by rw [hst, hge]; exact Nat.le_trans (nw_mono (step_le _ _)) (by omega)
 obtain ⟨x, hxe⟩ : ∃ x, x = xg (zv m xs) (zv n ys) := ⟨_, rfl⟩
 have hxn : (List.length (words x.natAbs)) ≤ 100000000 := by rw [hxe]; exact Nat.le_trans (nw_mono (xg_le hb)) (by omega)
 have hm := nz_mul x (zv m xs)
 have hs := nz_sub g (x * zv m xs)
 have hx2 : c % sp = x := by rw [hxe, hce, hst, hge]; rfl
 refine .seq fun _ k1 => .region (.box (.t rfl) rfl fun b1 => ?_)
 refine .box (.t rfl) rfl fun b2 => ?_
 refine .alloc [isB false, SlM isU []] zero30 (fun _ _ => ⟨rfl, nilM _ _, trivial⟩) rfl fun b3 => ?_
 refine .alloc [isB false, SlM isU []] zero30 (fun _ _ => ⟨rfl, nilM _ _, trivial⟩) rfl fun b4 => ?_
 refine .alloc [isB false, SlM isU []] zero30 (fun _ _ => ⟨rfl, nilM _ _, trivial⟩) rfl fun b5 => ?_
 refine nl (.thn (k1 _ _ ?_))
 refine .seq fun _ k2 => ?_
 refine .seq fun _ k3 => .region (st (.load (.t rfl) (i := 3) rfl ty30 rfl (Ss' := [_, _]) rfl) rfl ?_)
 refine st (.call (zint_Sign (by first | with_reducible assumption | omega | (simp only [val_words, zv_nf]; omega) | (simp only [val_words, zv_nf, Int.natAbs_natCast]; omega) | (simp only [val_words]; exact Nat.le_trans (nw_small' (by omega)) (by decide)))) (.cons (.t rfl) .nil)) rfl ?_
 refine st (.eqI (.t rfl) (Has.cI 0 rfl)) rfl ?_
 refine nl (.thn (k3 _ _ ?_))
 refine .cond (.t rfl) (fun hc1 => ?_) (fun hc1 => ?_)
 ·have hc1 := BP.t hc1
  exact absurd ((sgn_eq0 _).1 hc1) hb
 ·have hc1 := BP.f hc1
  refine .skip ?_
  refine .thn (k2 _ _ ?_)
  refine .cv (Cv.wk (.k 2 rfl (.k 3 rfl (.k 4 rfl (.k 5 rfl (.k 6 rfl .nil)))))) ?_
  refine .seq fun _ k4 => .region (st (.load (.t rfl) (i := 4) rfl ty30 rfl (Ss' := [_, _]) rfl) rfl ?_)
  refine st (.load (.t rfl) (i := 3) rfl ty30 rfl (Ss' := [_, _]) rfl) rfl (st (.eq (.call (zint_cofactor (by first | with_reducible assumption | omega | (simp only [val_words, zv_nf]; omega) | (simp only [val_words, zv_nf, Int.natAbs_natCast]; omega) | (simp only [val_words]; exact Nat.le_trans (nw_small' (by omega)) (by decide))) (by first | with_reducible assumption | omega | (simp only [val_words, zv_nf]; omega) | (simp only [val_words, zv_nf, Int.natAbs_natCast]; omega) | (simp only [val_words]; exact Nat.le_trans (nw_small' (by omega)) (by decide)))) (.cons (.t rfl) (.cons (.t rfl) .nil))) ((show isTup [isZ _, isZ _] = isTup [isZ g, isZ c] from by rw [hce, hge, hg1]))) rfl ?_)
  refine st (.mv (.t rfl)) rfl (st (.ext (.t rfl) rfl) rfl ?_)
  refine st (.ext (.t rfl) rfl) rfl ?_
  refine .alloc [isB false, SlM isU []] zero30 (fun _ _ => ⟨rfl, nilM _ _, trivial⟩) rfl fun b6 => ?_
  refine .alloc [isB false, SlM isU []] zero30 (fun _ _ => ⟨rfl, nilM _ _, trivial⟩) rfl fun b7 => ?_
  refine .store (.t rfl) (.t rfl) (i := 1) rfl ty30 rfl rfl (Ss' := [_, _]) rfl (M' := [_, (some _, cellM [_, _]), _, _, _, _, _]) rfl ?_
  refine .store (.t rfl) (.t rfl) (i := 0) rfl ty30 rfl rfl (Ss' := [_, _]) rfl (M' := [(some _, cellM [_, _]), _, _, _, _, _, _]) rfl ?_
  refine nl (.thn (k4 _ _ ?_))
  refine .cv (Cv.wk (.k 2 rfl (.k 3 rfl (.k 4 rfl (.k 5 rfl (.k 6 rfl (.k 7 rfl (.k 8 rfl .nil)))))))) ?_
  refine .seq fun _ k5 => ?_
  refine .drh [true, true, true, true, true, true, true] (Ms := [_, _, _, _, _, _, _]) rfl ?_
  refine .s [] rfl rfl rfl (.o rfl (.load (.t rfl) (i := 5) rfl ty30 rfl (Ss' := [_, _]) rfl)) ?_
  refine .s [29] rfl rfl rfl (.o rfl (.call (zint_Abs (by first | with_reducible assumption | omega | (simp only [val_words, zv_nf]; omega) | (simp only [val_words, zv_nf, Int.natAbs_natCast]; omega) | (simp only [val_words]; exact Nat.le_trans (nw_small' (by omega)) (by decide)))) (.cons (.t rfl) .nil))) ?_
  refine .s [] rfl rfl rfl (.o rfl (.load (.t rfl) (i := 1) rfl ty30 rfl (Ss' := [_, _]) rfl)) ?_
  refine .s [30, 31] rfl rfl rfl (.o rfl (.eq (.call (zint_Exact (by first | with_reducible assumption | omega | (simp only [val_words, zv_nf]; omega) | (simp only [val_words, zv_nf, Int.natAbs_natCast]; omega) | (simp only [val_words]; exact Nat.le_trans (nw_small' (by omega)) (by decide))) (by first | with_reducible assumption | omega | (simp only [val_words, zv_nf]; omega) | (simp only [val_words, zv_nf, Int.natAbs_natCast]; omega) | (simp only [val_words]; exact Nat.le_trans (nw_small' (by omega)) (by decide)))) (.cons (.t rfl) (.cons (.t rfl) .nil))) ((by simp only [zv_nf]; rw [show (if g ≠ 0 ∧ (((zv n ys).natAbs : Nat) : Int).tmod g = 0 then (((zv n ys).natAbs : Nat) : Int).tdiv g else 0) = sp from by rw [hst, hge, ← hg1]; exact (xg_step hb).trans (by rw [hg1])])))) ?_
  refine .s [32] rfl rfl rfl (.o rfl (.mv (.t rfl))) ?_
  refine .s [28] rfl rfl rfl (.o rfl (.ext (.t rfl) rfl)) ?_
  refine .s [28] rfl rfl rfl (.o rfl (.ext (.t rfl) rfl)) ?_
  refine .als (n1 := 8) (ds := [9]) (zs := [[isB false, SlM isU []]]) rfl (.cons rfl rfl zero30 (fun _ _ => ⟨rfl, nilM _ _, trivial⟩) .nil) (.cons_cons _ (.cons_cons _ (.cons_cons _ (.cons_cons _ (.cons_cons _ (.cons_cons _ (.cons_cons _ .slnil))))))) (Cs := [_]) rfl ?_
  refine .new [33] 0 (Ss' := [_, _]) (Cs' := [cellM [_, _]]) rfl (by kernel_rfl) (by kernel_rfl) rfl rfl rfl (by kernel_rfl) rfl (.t rfl) ty30 rfl rfl rfl rfl ?_
  refine .fin (n := 9) mixed rfl (by kernel_rfl) (by kernel_rfl) (by kernel_rfl) (fun bs hbs => ?_)
  obtain ⟨b8, rfl⟩ := len1 hbs
  refine .memEq (M' := [_, _, _, _, _, _, _, _]) rfl ?_
  refine .cv (Cv.wk (.k 2 rfl (.k 3 rfl (.k 4 rfl (.k 5 rfl (.k 6 rfl (.k 7 rfl (.k 8 rfl (.k 34 rfl (.cons (t := 9) (Has.op rfl) .nil)))))))))) ?_
  refine st (.as (.t rfl)) rfl ?_
  refine nl (.thn (k5 _ _ ?_))
  refine .seq fun _ k6 => .region (st (.load (.t rfl) (i := 1) rfl ty30 rfl (Ss' := [_, _]) rfl) rfl ?_)
  refine st (.load (.t rfl) (i := 0) rfl ty30 rfl (Ss' := [_, _]) rfl) rfl (st (.eq (.call (zint_Euclid (by first | with_reducible assumption | omega | (simp only [val_words, zv_nf]; omega) | (simp only [val_words, zv_nf, Int.natAbs_natCast]; omega) | (simp only [val_words]; exact Nat.le_trans (nw_small' (by omega)) (by decide))) (by first | with_reducible assumption | omega | (simp only [val_words, zv_nf]; omega) | (simp only [val_words, zv_nf, Int.natAbs_natCast]; omega) | (simp only [val_words]; exact Nat.le_trans (nw_small' (by omega)) (by decide)))) (.cons (.t rfl) (.cons (.t rfl) .nil))) ((by simp only [zv_nf]; rw [if_neg (show ¬ sp = 0 by omega), hx2]))) rfl ?_)
  refine st (.mv (.t rfl)) rfl (st (.ext (.t rfl) rfl) rfl ?_)
  refine st (.ext (.t rfl) rfl) rfl (st (.ext (.t rfl) rfl) rfl ?_)
  refine .store (.t rfl) (.t rfl) (i := 1) rfl ty30 rfl rfl (Ss' := [_, _]) rfl (M' := [_, (some _, cellM [_, _]), _, _, _, _, _, _]) rfl ?_
  refine nl (.thn (k6 _ _ ?_))
  refine .cv (Cv.wk (.k 2 rfl (.k 3 rfl (.k 4 rfl (.k 5 rfl (.k 6 rfl (.k 7 rfl (.k 8 rfl .nil)))))))) ?_
  refine .seq fun _ k7 => ?_
  refine .drh [true, true, true, true, true, true, true, true] (Ms := [_, _, _, _, _, _, _, _]) rfl ?_
  refine .s [] rfl rfl rfl (.o rfl (.load (.t rfl) (i := 2) rfl ty30 rfl (Ss' := [_, _]) rfl)) ?_
  refine .s [] rfl rfl rfl (.o rfl (.load (.t rfl) (i := 1) rfl ty30 rfl (Ss' := [_, _]) rfl)) ?_
  refine .s [] rfl rfl rfl (.o rfl (.load (.t rfl) (i := 7) rfl ty30 rfl (Ss' := [_, _]) rfl)) ?_
  refine .s [44, 45] rfl rfl rfl (.o rfl (.eq (.call (zint_Mul (by first | with_reducible assumption | omega | (simp only [val_words, zv_nf]; omega) | (simp only [val_words, zv_nf, Int.natAbs_natCast]; omega) | (simp only [val_words]; exact Nat.le_trans (nw_small' (by omega)) (by decide))) (by first | with_reducible assumption | omega | (simp only [val_words, zv_nf]; omega) | (simp only [val_words, zv_nf, Int.natAbs_natCast]; omega) | (simp only [val_words]; exact Nat.le_trans (nw_small' (by omega)) (by decide)))) (.cons (.t rfl) (.cons (.t rfl) .nil))) (by first | (simp only [val_words, zv_nf]; rfl) | rfl))) ?_
  refine .s [43, 46] rfl rfl rfl (.o rfl (.eq (.call (zint_Sub (by first | with_reducible assumption | omega | (simp only [val_words, zv_nf]; omega) | (simp only [val_words, zv_nf, Int.natAbs_natCast]; omega) | (simp only [val_words]; exact Nat.le_trans (nw_small' (by omega)) (by decide))) (by first | with_reducible assumption | omega | (simp only [val_words, zv_nf]; omega) | (simp only [val_words, zv_nf, Int.natAbs_natCast]; omega) | (simp only [val_words]; exact Nat.le_trans (nw_small' (by omega)) (by decide)))) (.cons (.t rfl) (.cons (.t rfl) .nil))) (by first | (simp only [val_words, zv_nf]; rfl) | rfl))) ?_
  refine .s [] rfl rfl rfl (.o rfl (.load (.t rfl) (i := 6) rfl ty30 rfl (Ss' := [_, _]) rfl)) ?_
  refine .s [47, 48] rfl rfl rfl (.o rfl (.eq (.call (zint_Exact (by first | with_reducible assumption | omega | (simp only [val_words, zv_nf]; omega) | (simp only [val_words, zv_nf, Int.natAbs_natCast]; omega) | (simp only [val_words]; exact Nat.le_trans (nw_small' (by omega)) (by decide))) (by first | with_reducible assumption | omega | (simp only [val_words, zv_nf]; omega) | (simp only [val_words, zv_nf, Int.natAbs_natCast]; omega) | (simp only [val_words]; exact Nat.le_trans (nw_small' (by omega)) (by decide)))) (.cons (.t rfl) (.cons (.t rfl) .nil))) (by first | (simp only [val_words, zv_nf]; rfl) | rfl))) ?_
  refine .s [49] rfl rfl rfl (.o rfl (.mv (.t rfl))) ?_
  refine .s [42] rfl rfl rfl (.o rfl (.ext (.t rfl) rfl)) ?_
  refine .s [42] rfl rfl rfl (.o rfl (.ext (.t rfl) rfl)) ?_
  refine .als (n1 := 11) (ds := [11]) (zs := [[isB false, SlM isU []]]) rfl (.cons rfl rfl zero30 (fun _ _ => ⟨rfl, nilM _ _, trivial⟩) .nil) (.cons_cons _ (.cons_cons _ (.cons_cons _ (.cons_cons _ (.cons_cons _ (.cons_cons _ (.cons_cons _ (.cons_cons _ .slnil)))))))) (Cs := [_]) rfl ?_
  refine .new [50] 0 (Ss' := [_, _]) (Cs' := [cellM [_, _]]) rfl (by kernel_rfl) (by kernel_rfl) rfl rfl rfl (by kernel_rfl) rfl (.t rfl) ty30 rfl rfl rfl rfl ?_
  refine .fin (n := 12) mixed rfl (by kernel_rfl) (by kernel_rfl) (by kernel_rfl) (fun bs hbs => ?_)
  obtain ⟨b9, rfl⟩ := len1 hbs
  refine .memEq (M' := [_, _, _, _, _, _, _, _, _]) rfl ?_
  refine .cv (Cv.wk (.k 4 rfl (.k 5 rfl (.k 6 rfl (.k 7 rfl (.k 8 rfl (.k 51 rfl (.cons (t := 11) (Has.op rfl) .nil)))))))) ?_
  refine st (.as (.t rfl)) rfl ?_
  refine nl (.thn (k7 _ _ ?_))
  refine .seq fun _ k8 => ?_
  refine .drh [true, true, true, true, true, false, false, true, true] (Ms := [_, _, _, _, _, _, _]) rfl ?_
  refine .s [] rfl rfl rfl (.o rfl (.load (.t rfl) (i := 3) rfl ty30 rfl (Ss' := [_, _]) rfl)) ?_
  refine .s [] rfl rfl rfl (.o rfl (.load (.t rfl) (i := 2) rfl ty30 rfl (Ss' := [_, _]) rfl)) ?_
  refine .s [] rfl rfl rfl (.o rfl (.load (.t rfl) (i := 0) rfl ty30 rfl (Ss' := [_, _]) rfl)) ?_
  refine .mid (.cons_cons _ (.cons_cons _ (.cons_cons _ (.cons_cons _ (.cons_cons _ (.cons _ (.cons _ (.cons_cons _ (.cons_cons _ .slnil))))))))) ?_
  refine .st [52] rfl rfl (by kernel_rfl) (by kernel_rfl) (StS.store (.t rfl) (.t rfl) (i := 6) rfl ty30 rfl rfl (Ss' := [_, _]) rfl (M' := [_, _, _, _, _, _, (some _, cellM [_, _]), _, _]) rfl) (.cons_cons _ (.cons_cons _ (.cons_cons _ (.cons_cons _ (.cons_cons _ (.cons _ (.cons _ (.cons_cons _ (.cons_cons _ .slnil))))))))) ?_
  refine .st [53] rfl rfl (by kernel_rfl) (by kernel_rfl) (StS.store (.t rfl) (.t rfl) (i := 5) rfl ty30 rfl rfl (Ss' := [_, _]) rfl (M' := [_, _, _, _, _, (some _, cellM [_, _]), _, _, _]) rfl) (.cons_cons _ (.cons_cons _ (.cons_cons _ (.cons_cons _ (.cons_cons _ (.cons _ (.cons _ (.cons_cons _ (.cons_cons _ .slnil))))))))) ?_
  refine .fin (n := 5) mixed rfl (by kernel_rfl) (by kernel_rfl) (by kernel_rfl) ?_
  refine .cv (Cv.wk (.k 4 rfl (.k 5 rfl (.k 6 rfl (.k 54 rfl .nil))))) ?_
  refine .store (.t rfl) (.t rfl) (i := 4) rfl ty30 rfl rfl (Ss' := [_, _]) rfl (M' := [_, _, _, _, (some _, cellM [_, _]), _, _, _, _]) rfl ?_
  refine nl (.thn (k8 _ _ ?_))
  refine .ret ?_
  refine rtN (.inl rfl) Try.results88 rfl rfl (.cell rfl (i := 6) rfl ty30 rfl ?_ (.cell rfl (i := 5) rfl ty30 rfl ?_ (.cell rfl (i := 4) rfl ty30 rfl ?_ .nil)))
  ·exact isZ_eq hge
  ·exact isZ_eq hxe
  ·exact isZ_eq (by rw [hge, hxe])
theorem modn_Mod {m n : Bool} {xs ys : List Nat} (hx : (List.length (words (val xs))) < 4294700000) (hy : (List.length (words (val ys))) < 4294700000) : Ctr Try.prog 62 [Flat [isB m, isWords xs], Flat [isB n, isWords ys]] (isTup [isZ (if 0 < zv n ys then zv m xs % zv n ys else 0), isB (decide (0 < zv n ys))]) := by
 refine Ctr.intro Try.func62 rfl (by kernel_rfl) Try.ntmps62 rfl fun w0 F0 => ?_
 refine .cv (Cv.wk (.k 0 rfl (.k 1 rfl .nil))) ?_
 refine .fact (Has.okZ (Has.t (t := 0) rfl)) fun okz0 => ?_
 refine .fact (Has.okZ (Has.t (t := 1) rfl)) fun okz1 => ?_
 refine .seq fun _ k1 => .region (.box (.t rfl) rfl fun b1 => ?_)
 refine .box (.t rfl) rfl fun b2 => ?_
 refine .alloc [isB false, SlM isU []] zero30 (fun _ _ => ⟨rfl, nilM _ _, trivial⟩) rfl fun b3 => ?_
 refine st (.as (Has.cB false)) rfl ?_
 refine nl (.thn (k1 _ _ ?_))
 refine .seq fun _ k2 => ?_
 refine .seq fun _ k3 => .region (st (.load (.t rfl) (i := 1) rfl ty30 rfl (Ss' := [_, _]) rfl) rfl ?_)
 refine st (.call (zint_Sign (by first | with_reducible assumption | omega | (simp only [val_words, zv_nf]; omega) | (simp only [val_words, zv_nf, Int.natAbs_natCast]; omega) | (simp only [val_words]; exact Nat.le_trans (nw_small' (by omega)) (by decide)))) (.cons (.t rfl) .nil)) rfl ?_
 refine st (.leI (.t rfl) (Has.cI 0 rfl)) rfl ?_
 refine nl (.thn (k3 _ _ ?_))
 refine .cond (.t rfl) (fun hc1 => ?_) (fun hc1 => ?_)
 ·have hc1 := BP.t hc1
  have hN : ¬ 0 < zv n ys := fun e => by have := (sgn_pos _).2 e; omega
  refine .seq fun _ k4 => .region (st (.eq (.build [isB false, SlM isU []] pl30 zero30 (fun _ _ => ⟨rfl, nilM _ _, trivial⟩) .nil (Z'' := [_, _]) rfl) (isZ0)) rfl ?_)
  refine .store (.t rfl) (.t rfl) (i := 0) rfl ty30 rfl rfl (Ss' := [_, _]) rfl (M' := [(some _, cellM [_, _]), _, _]) rfl ?_
  refine st (.as (Has.cB false)) rfl ?_
  refine nl (.thn (k4 _ _ ?_))
  refine .cv (Cv.wk (.k 2 rfl (.k 3 rfl (.k 4 rfl (.k 5 rfl .nil))))) ?_
  refine .ret ?_
  refine .thr ?_
  refine rtN (.inl rfl) Try.results62 rfl rfl (.cell rfl (i := 0) rfl ty30 rfl ?_ (.tmp (Has.t' rfl ?_) .nil))
  ·exact isZ_eq (if_neg hN).symm
  ·exact isB_eq (decide_eq_false hN).symm
 ·have hc1 := BP.f hc1
  have hP : 0 < zv n ys := (sgn_pos _).1 (by omega)
  refine .skip ?_
  refine .thn (k2 _ _ ?_)
  refine .cv (Cv.wk (.k 2 rfl (.k 3 rfl (.k 4 rfl (.k 5 rfl .nil))))) ?_
  refine .seq fun _ k5 => .region (st (.load (.t rfl) (i := 2) rfl ty30 rfl (Ss' := [_, _]) rfl) rfl ?_)
  refine st (.load (.t rfl) (i := 1) rfl ty30 rfl (Ss' := [_, _]) rfl) rfl (st (.call (zint_Euclid (by first | with_reducible assumption | omega | (simp only [val_words, zv_nf]; omega) | (simp only [val_words, zv_nf, Int.natAbs_natCast]; omega) | (simp only [val_words]; exact Nat.le_trans (nw_small' (by omega)) (by decide))) (by first | with_reducible assumption | omega | (simp only [val_words, zv_nf]; omega) | (simp only [val_words, zv_nf, Int.natAbs_natCast]; omega) | (simp only [val_words]; exact Nat.le_trans (nw_small' (by omega)) (by decide)))) (.cons (.t rfl) (.cons (.t rfl) .nil))) rfl ?_)
  refine st (.mv (.t rfl)) rfl (st (.ext (.t rfl) rfl) rfl ?_)
  refine st (.ext (.t rfl) rfl) rfl (st (.ext (.t rfl) rfl) rfl ?_)
  refine .alloc [isB false, SlM isU []] zero30 (fun _ _ => ⟨rfl, nilM _ _, trivial⟩) rfl fun b4 => ?_
  refine .alloc [isB false, SlM isU []] zero30 (fun _ _ => ⟨rfl, nilM _ _, trivial⟩) rfl fun b5 => ?_
  refine .store (.t rfl) (.t rfl) (i := 1) rfl ty30 rfl rfl (Ss' := [_, _]) rfl (M' := [_, (some _, cellM [_, _]), _, _, _]) rfl ?_
  refine .store (.t rfl) (.t rfl) (i := 0) rfl ty30 rfl rfl (Ss' := [_, _]) rfl (M' := [(some _, cellM [_, _]), _, _, _, _]) rfl ?_
  refine st (.as (.t rfl)) rfl ?_
  refine nl (.thn (k5 _ _ ?_))
  refine .cv (Cv.wk (.k 4 rfl (.k 5 rfl (.k 7 rfl (.k 8 rfl .nil))))) ?_
  refine .seq fun _ k6 => .region (st (.load (.t rfl) (i := 0) rfl ty30 rfl (Ss' := [_, _]) rfl) rfl ?_)
  refine st (.mv (.t rfl)) rfl ?_
  refine .store (.t rfl) (.t rfl) (i := 2) rfl ty30 rfl rfl (Ss' := [_, _]) rfl (M' := [_, _, (some _, cellM [_, _]), _, _]) rfl ?_
  refine st (.as (.t rfl)) rfl ?_
  refine nl (.thn (k6 _ _ ?_))
  refine .ret ?_
  refine rtN (.inl rfl) Try.results62 rfl rfl (.cell rfl (i := 2) rfl ty30 rfl ?_ (.tmp (Has.t' rfl ?_) .nil))
  ·exact isZ_eq (by rw [if_neg (by omega), if_pos hP])
  ·exact isB_eq (decide_eq_decide.2 ⟨fun _ => hP, fun _ => by omega⟩)
end Go.Proofs.Ythkdmhaafanjlaa
namespace Go.Proofs.Ythkdmhaafanjlaa
open Go.En Go.RowKit
set_option maxRecDepth 10000
set_option maxHeartbeats 4000000
open Go.Nt
open Go.Pz
open Go.Mz
open Go.Hn
theorem zint_Floor {m n : Bool} {xs ys : List Nat} (hx : (List.length (words (val xs))) < 4294700000) (hy : (List.length (words (val ys))) < 4294700000) (hp : 0 < zv n ys) : Ctr Try.prog 90 [Flat [isB m, isWords xs], Flat [isB n, isWords ys]] (isTup [isZ (zv m xs / zv n ys), isZ (zv m xs % zv n ys), isB true]) := by
 refine Ctr.intro Try.func90 rfl (by kernel_rfl) Try.ntmps90 rfl fun w0 F0 => ?_
 refine .cv (Cv.wk (.k 0 rfl (.k 1 rfl .nil))) ?_
 refine .fact (Has.okZ (Has.t (t := 0) rfl)) fun okz0 => ?_
 refine .fact (Has.okZ (Has.t (t := 1) rfl)) fun okz1 => ?_
 have ha := nz_tdiv (zv m xs) (zv n ys)
 have hb := nz_if (zv m xs) (zv n ys)
 have hxx := zv_nw m xs
 have hyy := zv_nw n ys
 have h1 := nz_one
 have hs1 : sgn (zv n ys) = 1 := by rcases sgn_cases (zv n ys) with h | h | h <;> omega
 have hr := sgn_range (if zv n ys = 0 then 0 else (zv m xs).tmod (zv n ys))
 refine .seq fun _ k1 => .region (.box (.t rfl) rfl fun b1 => ?_)
 refine .box (.t rfl) rfl fun b2 => ?_
 refine .alloc [isB false, SlM isU []] zero30 (fun _ _ => ⟨rfl, nilM _ _, trivial⟩) rfl fun b3 => ?_
 refine .alloc [isB false, SlM isU []] zero30 (fun _ _ => ⟨rfl, nilM _ _, trivial⟩) rfl fun b4 => ?_
 refine st (.as (Has.cB false)) rfl ?_
 refine nl (.thn (k1 _ _ ?_))
 refine .seq fun _ k2 => .region (st (.load (.t rfl) (i := 3) rfl ty30 rfl (Ss' := [_, _]) rfl) rfl ?_)
 refine st (.load (.t rfl) (i := 2) rfl ty30 rfl (Ss' := [_, _]) rfl) rfl (st (.call (zint_Quo (by first | with_reducible assumption | omega | (simp only [val_words, zv_nf]; omega) | (simp only [val_words]; exact Nat.le_trans (nw_small' (by omega)) (by decide))) (by first | with_reducible assumption | omega | (simp only [val_words, zv_nf]; omega) | (simp only [val_words]; exact Nat.le_trans (nw_small' (by omega)) (by decide)))) (.cons (.t rfl) (.cons (.t rfl) .nil))) rfl ?_)
 refine st (.mv (.t rfl)) rfl (st (.ext (.t rfl) rfl) rfl ?_)
 refine st (.ext (.t rfl) rfl) rfl (st (.ext (.t rfl) rfl) rfl ?_)
 refine .alloc [isB false, SlM isU []] zero30 (fun _ _ => ⟨rfl, nilM _ _, trivial⟩) rfl fun b5 => ?_
 refine .alloc [isB false, SlM isU []] zero30 (fun _ _ => ⟨rfl, nilM _ _, trivial⟩) rfl fun b6 => ?_
 refine .store (.t rfl) (.t rfl) (i := 1) rfl ty30 rfl rfl (Ss' := [_, _]) rfl (M' := [_, (some _, cellM [_, _]), _, _, _, _]) rfl ?_
 refine .store (.t rfl) (.t rfl) (i := 0) rfl ty30 rfl rfl (Ss' := [_, _]) rfl (M' := [(some _, cellM [_, _]), _, _, _, _, _]) rfl ?_
 refine st (.as (.t rfl)) rfl ?_
 refine nl (.thn (k2 _ _ ?_))
 refine .cv (Cv.wk (.k 3 rfl (.k 4 rfl (.k 5 rfl (.k 6 rfl (.k 7 rfl (.k 8 rfl (.k 9 rfl .nil)))))))) ?_
 refine .seq fun _ k3 => ?_
 refine .seq fun _ k4 => ?_
 refine .dr ?_
 refine .s [] rfl rfl rfl (.o rfl (.mv (.t rfl))) ?_
 refine .s [17] rfl rfl rfl (.o rfl (.mv (.t rfl))) ?_
 refine .s [18] rfl rfl rfl (.T rfl rfl rfl (fun hg => have hg' := BP.t hg; OK1.load (.t rfl) (i := 0) rfl ty30 rfl (Ss' := [_, _]) rfl)) ?_
 refine .s [18, 19] rfl rfl rfl (.T rfl rfl rfl (fun hg => have hg' := BP.t hg; OK1.eq (.call (zint_Sign (by first | with_reducible assumption | omega | (simp only [val_words, zv_nf]; omega) | (simp only [val_words]; exact Nat.le_trans (nw_small' (by omega)) (by decide)))) (.cons (Has.g rfl hg) .nil)) (by first | (simp only [val_words, zv_nf]; rfl) | rfl))) ?_
 refine .s [18] rfl rfl rfl (.T rfl rfl rfl (fun hg => have hg' := BP.t hg; OK1.load (.t rfl) (i := 4) rfl ty30 rfl (Ss' := [_, _]) rfl)) ?_
 refine .fin (n := 5) mixed (by kernel_rfl) (by kernel_rfl) (by kernel_rfl) ?_
 refine .cv (Cv.wk (.k 3 rfl (.k 4 rfl (.k 5 rfl (.k 6 rfl (.k 7 rfl (.k 8 rfl (.k 9 rfl (.k 18 rfl (.k 20 rfl (.k 21 rfl .nil))))))))))) ?_
 refine stT rfl rfl (fun hg => have hg' := BP.t hg; OK1.eq (.call (zint_Sign (by first | with_reducible assumption | omega | (simp only [val_words, zv_nf]; omega) | (simp only [val_words]; exact Nat.le_trans (nw_small' (by omega)) (by decide)))) (.cons (Has.g rfl hg) .nil)) ((show isI _ = isI 1 from isI_eq hs1))) rfl ?_
 refine stT rfl rfl (fun hg => have hg' := BP.t hg; OK1.mulI (Has.g rfl hg) (Has.g rfl hg) (by first | with_reducible assumption | omega | (simp only [val_words, zv_nf]; omega) | (simp only [val_words]; exact Nat.le_trans (nw_small' (by omega)) (by decide))) (by first | with_reducible assumption | omega | (simp only [val_words, zv_nf]; omega) | (simp only [val_words]; exact Nat.le_trans (nw_small' (by omega)) (by decide)))) rfl ?_
 refine stT rfl rfl (fun hg => have hg' := BP.t hg; OK1.ltI (Has.g rfl hg) (Has.cI 0 rfl)) rfl ?_
 refine st (.pickAnd (.t rfl) (fun h => Has.g rfl h)) rfl ?_
 refine nl (.thn (k4 _ _ ?_))
 refine .cv (Cv.wk (.k 3 rfl (.k 4 rfl (.k 5 rfl (.k 6 rfl (.k 7 rfl (.k 8 rfl (.k 9 rfl (.k 25 rfl .nil))))))))) ?_
 refine .cond (.t rfl) (fun hc1 => ?_) (fun hc1 => ?_)
 ·have hc1 := BP.t hc1
  have HE := euc1 (x := zv m xs) (y := zv n ys) ⟨hc1.1, by have := hc1.2; omega⟩ ((sgn_pos _).2 hp)
  refine .dr ?_
  refine .s [] rfl rfl rfl (.o rfl (.load (.t rfl) (i := 1) rfl ty30 rfl (Ss' := [_, _]) rfl)) ?_
  refine .s [] rfl rfl rfl (.o rfl (.call (zint_one) .nil)) ?_
  refine .s [26, 27] rfl rfl rfl (.o rfl (.eq (.call (zint_Sub (by first | with_reducible assumption | omega | (simp only [val_words, zv_nf]; omega) | (simp only [val_words]; exact Nat.le_trans (nw_small' (by omega)) (by decide))) (by first | with_reducible assumption | omega | (simp only [val_words, zv_nf]; omega) | (simp only [val_words]; exact Nat.le_trans (nw_small' (by omega)) (by decide)))) (.cons (.t rfl) (.cons (.t rfl) .nil))) (by first | (simp only [val_words, zv_nf]; rfl) | rfl))) ?_
  refine .s [] rfl rfl rfl (.o rfl (.load (.t rfl) (i := 0) rfl ty30 rfl (Ss' := [_, _]) rfl)) ?_
  refine .s [] rfl rfl rfl (.o rfl (.load (.t rfl) (i := 4) rfl ty30 rfl (Ss' := [_, _]) rfl)) ?_
  refine .fin (n := 5) mixed (by kernel_rfl) (by kernel_rfl) (by kernel_rfl) ?_
  refine .cv (Cv.wk (.k 4 rfl (.k 5 rfl (.k 6 rfl (.k 7 rfl (.k 8 rfl (.k 9 rfl (.k 28 rfl (.k 29 rfl (.k 30 rfl .nil)))))))))) ?_
  refine st (.eq (.call (zint_Add (by first | with_reducible assumption | omega | (simp only [val_words, zv_nf]; omega) | (simp only [val_words]; exact Nat.le_trans (nw_small' (by omega)) (by decide))) (by first | with_reducible assumption | omega | (simp only [val_words, zv_nf]; omega) | (simp only [val_words]; exact Nat.le_trans (nw_small' (by omega)) (by decide)))) (.cons (.t rfl) (.cons (.t rfl) .nil))) (by first | (simp only [val_words, zv_nf]; rfl) | rfl)) rfl ?_
  refine .store (.t rfl) (.t rfl) (i := 1) rfl ty30 rfl rfl (Ss' := [_, _]) rfl (M' := [_, (some _, cellM [_, _]), _, _, _, _]) rfl ?_
  refine .store (.t rfl) (.t rfl) (i := 0) rfl ty30 rfl rfl (Ss' := [_, _]) rfl (M' := [(some _, cellM [_, _]), _, _, _, _, _]) rfl ?_
  refine nl (.thn (k3 _ _ ?_))
  refine .seq fun _ k5 => ?_
  refine .drh [true, true, false, false, true, true] (Ms := [_, _, _, _]) rfl ?_
  refine .s [] rfl rfl rfl (.o rfl (.load (.t rfl) (i := 1) rfl ty30 rfl (Ss' := [_, _]) rfl)) ?_
  refine .s [] rfl rfl rfl (.o rfl (.load (.t rfl) (i := 0) rfl ty30 rfl (Ss' := [_, _]) rfl)) ?_
  refine .s [] rfl rfl rfl (.o rfl (.mv (.t rfl))) ?_
  refine .mid (.cons_cons _ (.cons_cons _ (.cons _ (.cons _ (.cons_cons _ (.cons_cons _ .slnil)))))) ?_
  refine .st [32] rfl rfl (by kernel_rfl) (by kernel_rfl) (StS.store (.t rfl) (.t rfl) (i := 3) rfl ty30 rfl rfl (Ss' := [_, _]) rfl (M' := [_, _, _, (some _, cellM [_, _]), _, _]) rfl) (.cons_cons _ (.cons_cons _ (.cons _ (.cons _ (.cons_cons _ (.cons_cons _ .slnil)))))) ?_
  refine .st [33] rfl rfl (by kernel_rfl) (by kernel_rfl) (StS.store (.t rfl) (.t rfl) (i := 2) rfl ty30 rfl rfl (Ss' := [_, _]) rfl (M' := [_, _, (some _, cellM [_, _]), _, _, _]) rfl) (.cons_cons _ (.cons_cons _ (.cons _ (.cons _ (.cons_cons _ (.cons_cons _ .slnil)))))) ?_
  refine .fin (n := 5) mixed rfl (by kernel_rfl) (by kernel_rfl) (by kernel_rfl) ?_
  refine .cv (Cv.wk (.k 4 rfl (.k 5 rfl (.k 6 rfl (.k 34 rfl .nil))))) ?_
  refine st (.as (.t rfl)) rfl ?_
  refine nl (.thn (k5 _ _ ?_))
  refine .ret ?_
  refine rtN (.inl rfl) Try.results90 rfl rfl (.cell rfl (i := 3) rfl ty30 rfl ?_ (.cell rfl (i := 2) rfl ty30 rfl ?_ (.tmp (Has.t' rfl ?_) .nil)))
  ·exact isZ_eq HE.1
  ·exact isZ_eq (HE.2.trans (if_neg (by omega)))
  ·exact isB_eq (decide_eq_true (by omega))
 ·have hc1 := BP.f hc1
  have HE := euc0 (x := zv m xs) (y := zv n ys) (hc1.imp id fun h => by omega)
  refine .skip ?_
  refine .thn (k3 _ _ ?_)
  refine .seq fun _ k6 => ?_
  refine .drh [true, true, false, false, true, true] (Ms := [_, _, _, _]) rfl ?_
  refine .s [] rfl rfl rfl (.o rfl (.load (.t rfl) (i := 1) rfl ty30 rfl (Ss' := [_, _]) rfl)) ?_
  refine .s [] rfl rfl rfl (.o rfl (.load (.t rfl) (i := 0) rfl ty30 rfl (Ss' := [_, _]) rfl)) ?_
  refine .s [] rfl rfl rfl (.o rfl (.mv (.t rfl))) ?_
  refine .mid (.cons_cons _ (.cons_cons _ (.cons _ (.cons _ (.cons_cons _ (.cons_cons _ .slnil)))))) ?_
  refine .st [32] rfl rfl (by kernel_rfl) (by kernel_rfl) (StS.store (.t rfl) (.t rfl) (i := 3) rfl ty30 rfl rfl (Ss' := [_, _]) rfl (M' := [_, _, _, (some _, cellM [_, _]), _, _]) rfl) (.cons_cons _ (.cons_cons _ (.cons _ (.cons _ (.cons_cons _ (.cons_cons _ .slnil)))))) ?_
  refine .st [33] rfl rfl (by kernel_rfl) (by kernel_rfl) (StS.store (.t rfl) (.t rfl) (i := 2) rfl ty30 rfl rfl (Ss' := [_, _]) rfl (M' := [_, _, (some _, cellM [_, _]), _, _, _]) rfl) (.cons_cons _ (.cons_cons _ (.cons _ (.cons _ (.cons_cons _ (.cons_cons _ .slnil)))))) ?_
  refine .fin (n := 5) mixed rfl (by kernel_rfl) (by kernel_rfl) (by kernel_rfl) ?_
  refine .cv (Cv.wk (.k 4 rfl (.k 5 rfl (.k 6 rfl (.k 34 rfl .nil))))) ?_
  refine st (.as (.t rfl)) rfl ?_
  refine nl (.thn (k6 _ _ ?_))
  refine .ret ?_
  refine rtN (.inl rfl) Try.results90 rfl rfl (.cell rfl (i := 3) rfl ty30 rfl ?_ (.cell rfl (i := 2) rfl ty30 rfl ?_ (.tmp (Has.t' rfl ?_) .nil)))
  ·exact isZ_eq HE.1
  ·exact isZ_eq (HE.2.trans (if_neg (by omega)))
  ·exact isB_eq (decide_eq_true (by omega))
theorem zint_Xgcd0 {m n : Bool} {xs ys : List Nat} (hx : (List.length (words (val xs))) ≤ 100000000) (hy : (List.length (words (val ys))) ≤ 100000000) (hb : zv n ys = 0) : Ctr Try.prog 88 [Flat [isB m, isWords xs], Flat [isB n, isWords ys]] (isTup [isZ (xgg (zv m xs) (zv n ys)), isZ (sgn (zv m xs)), isZ 0]) := by
 refine Ctr.intro Try.func88 rfl (by kernel_rfl) Try.ntmps88 rfl fun w0 F0 => ?_
 refine .cv (Cv.wk (.k 0 rfl (.k 1 rfl .nil))) ?_
 refine .fact (Has.okZ (Has.t (t := 0) rfl)) fun okz0 => ?_
 refine .fact (Has.okZ (Has.t (t := 1) rfl)) fun okz1 => ?_
 refine .seq fun _ k1 => .region (.box (.t rfl) rfl fun b1 => ?_)
 refine .box (.t rfl) rfl fun b2 => ?_
 refine .alloc [isB false, SlM isU []] zero30 (fun _ _ => ⟨rfl, nilM _ _, trivial⟩) rfl fun b3 => ?_
 refine .alloc [isB false, SlM isU []] zero30 (fun _ _ => ⟨rfl, nilM _ _, trivial⟩) rfl fun b4 => ?_
 refine .alloc [isB false, SlM isU []] zero30 (fun _ _ => ⟨rfl, nilM _ _, trivial⟩) rfl fun b5 => ?_
 refine nl (.thn (k1 _ _ ?_))
 refine .seq fun _ k2 => ?_
 refine .seq fun _ k3 => .region (st (.load (.t rfl) (i := 3) rfl ty30 rfl (Ss' := [_, _]) rfl) rfl ?_)
 refine st (.call (zint_Sign (by first | with_reducible assumption | omega | (simp only [val_words, zv_nf]; omega) | (simp only [val_words]; exact Nat.le_trans (nw_small' (by omega)) (by decide)))) (.cons (.t rfl) .nil)) rfl ?_
 refine st (.eqI (.t rfl) (Has.cI 0 rfl)) rfl ?_
 refine nl (.thn (k3 _ _ ?_))
 refine .cond (.t rfl) (fun hc1 => ?_) (fun hc1 => ?_)
 ·have hc1 := BP.t hc1
  refine .seq fun _ k4 => ?_
  refine .drh [true, false, false, true, true] (Ms := [_, _, _]) rfl ?_
  refine .s [] rfl rfl rfl (.o rfl (.load (.t rfl) (i := 2) rfl ty30 rfl (Ss' := [_, _]) rfl)) ?_
  refine .s [16] rfl rfl rfl (.o rfl (.call (zint_Abs (by first | with_reducible assumption | omega | (simp only [val_words, zv_nf]; omega) | (simp only [val_words]; exact Nat.le_trans (nw_small' (by omega)) (by decide)))) (.cons (.t rfl) .nil))) ?_
  refine .s [] rfl rfl rfl (.o rfl (.load (.t rfl) (i := 2) rfl ty30 rfl (Ss' := [_, _]) rfl)) ?_
  refine .s [18] rfl rfl rfl (.o rfl (.call (zint_Sign (by first | with_reducible assumption | omega | (simp only [val_words, zv_nf]; omega) | (simp only [val_words]; exact Nat.le_trans (nw_small' (by omega)) (by decide)))) (.cons (.t rfl) .nil))) ?_
  refine .s [19] rfl rfl rfl (.o rfl (.call (zint_Of) (.cons (.t rfl) .nil))) ?_
  refine .s [] rfl rfl rfl (.o rfl (.eq (.build [isB false, SlM isU []] pl30 zero30 (fun _ _ => ⟨rfl, nilM _ _, trivial⟩) .nil (Z'' := [_, _]) rfl) (isZ0))) ?_
  refine .mid (.cons_cons _ (.cons _ (.cons _ (.cons_cons _ (.cons_cons _ .slnil))))) ?_
  refine .st [17] rfl rfl (by kernel_rfl) (by kernel_rfl) (StS.store (.t rfl) (.t rfl) (i := 2) rfl ty30 rfl rfl (Ss' := [_, _]) rfl (M' := [_, _, (some _, cellM [_, _]), _, _]) rfl) (.cons_cons _ (.cons _ (.cons _ (.cons_cons _ (.cons_cons _ .slnil))))) ?_
  refine .st [20] rfl rfl (by kernel_rfl) (by kernel_rfl) (StS.store (.t rfl) (.t rfl) (i := 1) rfl ty30 rfl rfl (Ss' := [_, _]) rfl (M' := [_, (some _, cellM [_, _]), _, _, _]) rfl) (.cons_cons _ (.cons _ (.cons _ (.cons_cons _ (.cons_cons _ .slnil))))) ?_
  refine .fin (n := 8) mixed rfl (by kernel_rfl) (by kernel_rfl) (by kernel_rfl) ?_
  refine .cv (Cv.wk (.k 2 rfl (.k 3 rfl (.k 4 rfl (.k 5 rfl (.k 6 rfl (.k 21 rfl .nil))))))) ?_
  refine .store (.t rfl) (.t rfl) (i := 0) rfl ty30 rfl rfl (Ss' := [_, _]) rfl (M' := [(some _, cellM [_, _]), _, _, _, _]) rfl ?_
  refine nl (.thn (k4 _ _ ?_))
  refine .ret ?_
  refine .thr ?_
  refine rtN (.inl rfl) Try.results88 rfl rfl (.cell rfl (i := 2) rfl ty30 rfl ?_ (.cell rfl (i := 1) rfl ty30 rfl ?_ (.cell rfl (i := 0) rfl ty30 rfl ?_ .nil)))
  ·exact isZ_eq (by rw [hb]; unfold xgg; rw [show (0 : Int).natAbs = 0 from rfl, Nat.gcd_zero_right])
  ·rfl
  ·rfl
 ·have hc1 := BP.f hc1
  exact absurd ((sgn_eq0 _).2 hb) hc1
theorem zint_XgcdA {m n : Bool} {xs ys : List Nat} (hx : (List.length (words (val xs))) ≤ 100000000) (hy : (List.length (words (val ys))) ≤ 100000000) : Ctr Try.prog 88 [Flat [isB m, isWords xs], Flat [isB n, isWords ys]] (isTup [isZ (xgg (zv m xs) (zv n ys)), isZ (xgx (zv m xs) (zv n ys)), isZ (xgy (zv m xs) (zv n ys))]) := by
 by_cases hb : zv n ys = 0
 ·have h := zint_Xgcd0 (m := m) hx hy hb
  unfold xgx xgy
  rw [if_pos hb, if_pos hb]
  exact h
 ·have h := zint_Xgcd (m := m) hx hy hb
  have e := xgy_ex (a := zv m xs) hb
  unfold xgx
  rw [if_neg hb, ← e]
  exact h
end Go.Proofs.Ythkdmhaafanjlaa
namespace Go.Proofs.Ythkdmhaafanjlaa
open Go.En Go.RowKit
set_option maxRecDepth 10000
set_option maxHeartbeats 4000000
open Go.Nt
open Go.Pz
open Go.Mz
open Go.Hn
open Go.Tr
theorem modhnf_mixedX {S0 : VP} {b : Int} {m n : Bool} {us ws : List Nat} {xs ys : List (Bool × List Nat)} {A D K place : Nat} (hb0 : 0 < b) (ha : (List.length (words (val us))) ≤ A) (hx : Bd (vals xs) K) (hb : (List.length (words (val ws))) ≤ D) (hy : Bd (vals ys) K) (h1 : A + K ≤ 100000000) (h2 : D + K ≤ 100000000) (hbN : (List.length (words b.natAbs)) ≤ 100000000) (hl : ys.length = xs.length) (hn : xs.length ≤ 1000000) : CtrX Try.prog 89 [PtrL [S0, isB (decide (b < 0)), SlM isU (words b.natAbs)], Flat [isB m, isWords us], SlK 2 zc xs, Flat [isB n, isWords ws], SlK 2 zc ys, isI (place : Int)] ([]) (fun S M => ∃ bo, S = isWin bo 0 (mxT b place (zv m us) (vals xs) (zv n ws) (vals ys)).length (mxT b place (zv m us) (vals xs) (zv n ws) (vals ys)).length ∧ M = [(some bo, cellM (((mxT b place (zv m us) (vals xs) (zv n ws) (vals ys)).map nz).flatMap zc))]) := by
 refine CtrX.intro Try.func89 rfl (by kernel_rfl) Try.ntmps89 rfl fun w0 F0 => ?_
 refine .cv (Cv.wk (.k 0 rfl (.k 1 rfl (.k 2 rfl (.k 3 rfl (.k 4 rfl (.k 5 rfl .nil))))))) ?_
 refine .fact (Has.okZ (Has.t (t := 1) rfl)) fun okz1 => ?_
 refine .fact (Has.lenLt (Has.t (t := 2) rfl)) fun lt2 => ?_
 refine .fact (Has.okZ (Has.t (t := 3) rfl)) fun okz3 => ?_
 refine .fact (Has.lenLt (Has.t (t := 4) rfl)) fun lt4 => ?_
 refine .fact (Has.rngI (Has.t (t := 5) rfl)) fun lt5 => ?_
 obtain ⟨L, hL⟩ : ∃ L, L = mxT b place (zv m us) (vals xs) (zv n ws) (vals ys) := ⟨_, rfl⟩
 have hLl : L.length = xs.length := by rw [hL, mxT_len, vals_len]
 rw [← hL]
 have hea := zv_nw m us
 have heb := zv_nw n ws
 refine .seq fun _ k1 => .region (.box (.t rfl) rfl fun b1 => ?_)
 refine .box (.t rfl) rfl fun b2 => ?_
 refine st (.as (Has.cWK (k := 2) (fk := zc))) rfl ?_
 refine nl (.thn (k1 _ _ ?_))
 refine .seq fun _ k2 => .region (st (.mv (.t rfl)) rfl ?_)
 refine st (.len sl22 (.t rfl)) rfl ?_
 refine .makeK (fk := zc) (u := (false, [])) (n := xs.length) (c := xs.length) sl22 ty30 zero30 (fun _ _ => ⟨rfl, nilM _ _, trivial⟩) zc_len by30 (Has.t' rfl rfl) (Has.t' rfl rfl) ⟨by omega, by omega⟩ rfl fun b3 => ?_
 refine st (.as (.t rfl)) rfl ?_
 refine nl (.thn (k2 _ _ ?_))
 refine .cv (Cv.wk (.k 0 rfl (.k 2 rfl (.k 4 rfl (.k 5 rfl (.k 7 rfl (.k 9 rfl (.k 12 rfl (.k 13 rfl .nil))))))))) ?_
 refine .seq fun _ k3 => ?_
 refine .seq fun _ k4 => .region (st (.mv (.t rfl)) rfl ?_)
 refine st (.len sl22 (.t rfl)) rfl (st (.mv (Has.cI 0 rfl)) rfl ?_)
 refine nl (.thn (k4 _ _ ?_))
 refine .block ?_
 refine .loopF [0, 2, 4, 5, 7, 9, 12, 13, 19] (fun (z : { k : Nat // k ≤ xs.length }) => match z with | ⟨k, hk⟩ => [(20, isI (k : Int))]) (fun M => fun (z : { k : Nat // k ≤ xs.length }) => match z with | ⟨k, hk⟩ => [(some b3, cellM ((fill (L.map nz) k (false, [])).flatMap zc)), (some b2, cellM [isB n, SlM isU ws]), (some b1, cellM [isB m, SlM isU us])]) (fun (z : { k : Nat // k ≤ xs.length }) => match z with | ⟨k, hk⟩ => xs.length - k) (⟨0, Nat.zero_le _⟩) (Cv.mem (.cons (t := 20) (Has.t' rfl ?_) (.k 0 rfl (.k 2 rfl (.k 4 rfl (.k 5 rfl (.k 7 rfl (.k 9 rfl (.k 12 rfl (.k 13 rfl (.k 19 rfl .nil)))))))))) ?_) ?_
 ·rfl
 ·exact memZ_eq (by rw [fill_zero, List.length_map, hLl])
 rintro ⟨k, hk⟩ K5 hK5
 refine .cv (Cv.wk (.k 20 rfl (.k 0 rfl (.k 2 rfl (.k 4 rfl (.k 5 rfl (.k 7 rfl (.k 9 rfl (.k 12 rfl (.k 13 rfl (.k 19 rfl .nil))))))))))) ?_
 refine .memEq (M' := [(some b3, cellM ((fill (L.map nz) k (false, [])).flatMap zc)), (some b2, cellM [isB n, SlM isU ws]), (some b1, cellM [isB m, SlM isU us])]) rfl ?_
 refine .seq fun _ k6 => .region (st (.ltI (.t rfl) (.t rfl)) rfl ?_)
 refine nl (.thn (k6 _ _ ?_))
 refine .seq fun _ k7 => ?_
 refine .cond (.t rfl) (fun hc1 => ?_) (fun hc1 => ?_)
 ·have hc1 := BP.t hc1
  have hLk : L[k]? = some (mxv b place (zv m us) (vals xs) (zv n ws) (vals ys) k) := by rw [hL]; exact mxT_at _ _ _ _ _ _ (by rw [vals_len]; omega)
  have hxr := hx.raw k
  have hyr := hy.raw k
  have hxk := hx k
  have hyk := hy k
  have hm1 := nz_mul (zv m us) (cf (vals xs) k)
  have hm2 := nz_mul (zv n ws) (cf (vals ys) k)
  have hm3 := nz_add (zv m us * cf (vals xs) k) (zv n ws * cf (vals ys) k)
  refine .skip ?_
  refine .thn (k7 _ _ ?_)
  refine .seq fun _ k8 => ?_
  refine .block ?_
  refine .seq fun _ k9 => .region (st (.mv (.t rfl)) rfl ?_)
  refine st (.as (.t rfl)) rfl ?_
  refine nl (.thn (k9 _ _ ?_))
  refine .seq fun _ k10 => ?_
  refine .dr ?_
  refine .s [] rfl rfl rfl (.o rfl (.mv (.t rfl))) ?_
  refine .s [] rfl rfl rfl (.o rfl (.mv (.t rfl))) ?_
  refine .s [] rfl rfl rfl (.o rfl (.load (.t rfl) (i := 2) rfl ty30 rfl (Ss' := [_, _]) rfl)) ?_
  refine .s [] rfl rfl rfl (.o rfl (.mv (.t rfl))) ?_
  refine .s [] rfl rfl rfl (.o rfl (.mv (.t rfl))) ?_
  refine .s [26, 27] rfl rfl rfl (.o rfl (.ixK sl22 ty30 (.t rfl) (.t rfl) zc_len ⟨by omega, by omega⟩ (getD_some (d := (false, [])) (by first | omega | (simp only [Int.toNat_natCast, List.length_set]; omega))))) ?_
  refine .s [28] rfl rfl rfl (.o rfl (.loadP (.t rfl) ty30 rfl (Ss' := [_, _]) rfl)) ?_
  refine .s [25, 29] rfl rfl rfl (.o rfl (.eq (.call (zint_Mul (by omega) (by show (List.length (words (val (xs.getD k (false, [])).2))) ≤ _; omega)) (.cons (.t rfl) (.cons (.t rfl) .nil))) ((show isZ _ = isZ (zv m us * cf (vals xs) k) from isZ_eq (by rw [cf_vals]; rfl))))) ?_
  refine .s [] rfl rfl rfl (.o rfl (.load (.t rfl) (i := 1) rfl ty30 rfl (Ss' := [_, _]) rfl)) ?_
  refine .s [] rfl rfl rfl (.o rfl (.mv (.t rfl))) ?_
  refine .s [] rfl rfl rfl (.o rfl (.mv (.t rfl))) ?_
  refine .s [32, 33] rfl rfl rfl (.o rfl (.ixK sl22 ty30 (.t rfl) (.t rfl) zc_len ⟨by omega, by omega⟩ (getD_some (d := (false, [])) (by first | omega | (simp only [Int.toNat_natCast, List.length_set]; omega))))) ?_
  refine .s [34] rfl rfl rfl (.o rfl (.loadP (.t rfl) ty30 rfl (Ss' := [_, _]) rfl)) ?_
  refine .s [31, 35] rfl rfl rfl (.o rfl (.eq (.call (zint_Mul (by omega) (by show (List.length (words (val (ys.getD k (false, [])).2))) ≤ _; omega)) (.cons (.t rfl) (.cons (.t rfl) .nil))) ((show isZ _ = isZ (zv n ws * cf (vals ys) k) from isZ_eq (by rw [cf_vals]; rfl))))) ?_
  refine .s [30, 36] rfl rfl rfl (.o rfl (.eq (.call (zint_Add (by rw [val_words]; omega) (by rw [val_words]; omega)) (.cons (.t rfl) (.cons (.t rfl) .nil))) ((show isZ _ = Flat (zc (nz (zv m us * cf (vals xs) k + zv n ws * cf (vals ys) k))) from isZ_eq (by rw [zv_nf, zv_nf]))))) ?_
  refine .fin (n := 15) mixed (by kernel_rfl) (by kernel_rfl) (by kernel_rfl) ?_
  refine .cv (Cv.wk (.k 0 rfl (.k 2 rfl (.k 4 rfl (.k 5 rfl (.k 7 rfl (.k 9 rfl (.k 12 rfl (.k 13 rfl (.k 19 rfl (.k 20 rfl (.k 21 rfl (.k 22 rfl (.k 14 rfl (.k 23 rfl (.k 24 rfl (.k 25 rfl (.k 26 rfl (.k 27 rfl (.k 28 rfl (.k 29 rfl (.k 30 rfl (.k 31 rfl (.k 32 rfl (.k 33 rfl (.k 34 rfl (.k 35 rfl (.k 36 rfl (.k 37 rfl .nil))))))))))))))))))))))))))))) ?_
  refine st (.eq (.ixWin sl22 ty30 (.t rfl) (.t rfl) ⟨by omega, by omega⟩) (isPtr_eq (by first | exact ixo0 | exact ixo2 | exact ixo1))) rfl ?_
  refine .storeK (z := nz (zv m us * cf (vals xs) k + zv n ws * cf (vals ys) k)) zc_len (.t rfl) (.t rfl) (i := 0) rfl ty30 (by rw [fill_len _ _ _ (by rw [List.length_map]; omega), List.length_map]; omega) (M' := [(_, _), _, _]) rfl ?_
  refine nl (.thn (k10 _ _ ?_))
  refine .seq fun _ k11 => .region (st (.mv (.t rfl)) rfl ?_)
  refine st (.mv (.t rfl)) rfl (st (.gtI (.t rfl) (.t rfl)) rfl ?_)
  refine nl (.thn (k11 _ _ ?_))
  refine .cond (.t rfl) (fun hc2 => ?_) (fun hc2 => ?_)
  ·have hc2 := BP.t hc2
   have HP : place < k := (by omega)
   refine .dry mixed ?_
   refine .tk 0 rfl rfl rfl rfl (OKY.mv (.t rfl)) ?_
   refine .tk 1 rfl rfl rfl rfl (OKY.mv (.t rfl)) ?_
   refine .tk 2 rfl rfl rfl rfl (OKY.mv (.t rfl)) ?_
   refine .tk 3 rfl rfl rfl rfl (OKY.mv (.t rfl)) ?_
   refine .tk 6 rfl rfl rfl rfl (OKY.mv (.t rfl)) ?_
   refine .go [13] ?_
   refine .s 4 [] rfl rfl rfl (.o rfl (.eq (.ixWin sl22 ty30 (.t rfl) (.t rfl) ⟨by omega, by omega⟩) (isPtr_eq (by first | exact ixo0 | exact ixo2 | exact ixo1)))) ?_
   refine .s 5 [47] rfl rfl rfl (.o rfl (.loadK zc_len (.t rfl) (i := 0) rfl ty30 (show ((fill (L.map nz) k (false, [])).set k (nz (zv m us * cf (vals xs) k + zv n ws * cf (vals ys) k)))[k]? = some (nz (zv m us * cf (vals xs) k + zv n ws * cf (vals ys) k)) from List.getElem?_set_self (by rw [fill_len _ _ _ (by rw [List.length_map]; omega), List.length_map]; omega)))) ?_
   refine .s 7 [] rfl rfl rfl (.o rfl (.nilcP (.t rfl))) ?_
   refine .s 8 [50] rfl rfl rfl (.o rfl (.fieldAddrP (.t rfl) fld61_1 ty30 (Ss' := [_, _]) rfl)) ?_
   refine .s 9 [51] rfl rfl rfl (.o rfl (.loadP (.t rfl) ty30 rfl (Ss' := [_, _]) rfl)) ?_
   refine .s 10 [48, 52] rfl rfl rfl (.o rfl (.eq (.call (modn_Mod (by rw [val_words]; omega) (by rw [val_words]; omega)) (.cons (.t rfl) (.cons (.t rfl) .nil))) ((show isTup [isZ _, isB _] = isTup [Flat (zc (nz ((zv m us * cf (vals xs) k + zv n ws * cf (vals ys) k) % b))), isB true] from by simp only [zv_nf, zv_nz]; rw [if_pos hb0, decide_eq_true hb0])))) ?_
   refine .s 11 [53] rfl rfl rfl (.o rfl (.mv (.t rfl))) ?_
   refine .ea (i := 13) [42] rfl rfl rfl (by kernel_rfl) rfl (OKY.ext (.t rfl) rfl) ?_
   refine .fin [12, 14, 15] (by kernel_rfl) (by kernel_rfl) (fun _ _ _ _ _ h => h) (by kernel_rfl) (by kernel_rfl) (by kernel_rfl) (by kernel_rfl) (by kernel_rfl) (by kernel_rfl) (by kernel_rfl) (by kernel_rfl) (by kernel_rfl) ?_
   refine .cv (Cv.wk (.k 0 rfl (.k 2 rfl (.k 4 rfl (.k 5 rfl (.k 7 rfl (.k 9 rfl (.k 12 rfl (.k 13 rfl (.k 19 rfl (.k 20 rfl (.k 21 rfl (.k 22 rfl (.k 14 rfl (.k 23 rfl (.k 24 rfl (.k 25 rfl (.k 26 rfl (.k 27 rfl (.k 28 rfl (.k 29 rfl (.k 30 rfl (.k 31 rfl (.k 32 rfl (.k 33 rfl (.k 34 rfl (.k 35 rfl (.k 36 rfl (.k 37 rfl (.k 38 rfl (.k 39 rfl (.k 40 rfl (.k 41 rfl (.k 43 rfl (.k 44 rfl (.k 45 rfl (.k 46 rfl (.k 49 rfl (.k 47 rfl (.k 48 rfl (.k 50 rfl (.k 51 rfl (.k 52 rfl (.k 53 rfl (.k 42 rfl .nil))))))))))))))))))))))))))))))))))))))))))))) ?_
   refine st (.ext (.t rfl) rfl) rfl (st (.eq (.ixWin sl22 ty30 (.t rfl) (.t rfl) ⟨by omega, by omega⟩) (isPtr_eq (by first | exact ixo0 | exact ixo2 | exact ixo1))) rfl ?_)
   refine .storeK (z := nz ((zv m us * cf (vals xs) k + zv n ws * cf (vals ys) k) % b)) zc_len (.t rfl) (.t rfl) (i := 0) rfl ty30 (by rw [List.length_set, fill_len _ _ _ (by rw [List.length_map]; omega), List.length_map]; omega) (M' := [(_, _), _, _]) rfl ?_
   refine nl ?_
   refine .bln ?_
   refine .thn (k8 _ _ ?_)
   refine .region (st (.addI (.t rfl) (Has.cI 1 rfl) (by first | omega | assumption) (by first | omega | assumption)) rfl ?_)
   refine st (.mv (.t rfl)) rfl ?_
   refine nl ?_
   refine .thn ?_
   refine hK5 (⟨k + 1, by omega⟩) _ _ ?_ (Cv.mem (.cons (t := 20) (Has.t' rfl ?_) (.k 0 rfl (.k 2 rfl (.k 4 rfl (.k 5 rfl (.k 7 rfl (.k 9 rfl (.k 12 rfl (.k 13 rfl (.k 19 rfl .nil)))))))))) ?_)
   ·show xs.length - (k + 1) < xs.length - k; omega
   ·exact isI_eq (by omega)
   ·exact memZ_eq (by rw [List.set_set]; exact fill_set _ _ _ _ (by rw [List.getElem?_map, hLk, mxv, if_pos HP]; rfl))
  ·have hc2 := BP.f hc2
   have HP : ¬ place < k := (by omega)
   refine .skip ?_
   refine .bln ?_
   refine .thn (k8 _ _ ?_)
   refine .region (st (.addI (.t rfl) (Has.cI 1 rfl) (by first | omega | assumption) (by first | omega | assumption)) rfl ?_)
   refine st (.mv (.t rfl)) rfl ?_
   refine nl ?_
   refine .thn ?_
   refine hK5 (⟨k + 1, by omega⟩) _ _ ?_ (Cv.mem (.cons (t := 20) (Has.t' rfl ?_) (.k 0 rfl (.k 2 rfl (.k 4 rfl (.k 5 rfl (.k 7 rfl (.k 9 rfl (.k 12 rfl (.k 13 rfl (.k 19 rfl .nil)))))))))) ?_)
   ·show xs.length - (k + 1) < xs.length - k; omega
   ·exact isI_eq (by omega)
   ·exact memZ_eq (fill_set _ _ _ _ (by rw [List.getElem?_map, hLk, mxv, if_neg HP]; rfl))
 ·have hc1 := BP.f hc1
  refine .exit ?_
  refine .the ?_
  refine .the ?_
  refine .blh ?_
  refine .thn (k3 _ _ ?_)
  refine .cv (Cv.wk (.k 12 rfl (.k 13 rfl .nil))) ?_
  refine .seq fun _ k12 => .region (st (.mv (.t rfl)) rfl ?_)
  refine st (.as (.t rfl)) rfl ?_
  refine nl (.thn (k12 _ _ ?_))
  refine .ret ?_
  refine rtX1D (.cons_cons _ (.cons _ (.cons _ .slnil))) (.inl rfl) Try.results89 rfl (.tmp (.t rfl) .nil) ?_
  exact ⟨b3, by rw [hLl], by rw [show fill (L.map nz) k (false, []) = L.map nz from by rw [show k = (L.map nz).length by rw [List.length_map]; omega, fill_all]]⟩
theorem modhnf_mixedN {S0 : VP} {b : Int} {m n : Bool} {us ws : List Nat} {p q : List Int} {A D K place n0 : Nat} (hb0 : 0 < b) (ha : (List.length (words (val us))) ≤ A) (hx : Bd p K) (hb : (List.length (words (val ws))) ≤ D) (hy : Bd q K) (h1 : A + K ≤ 100000000) (h2 : D + K ≤ 100000000) (hbN : (List.length (words b.natAbs)) ≤ 100000000) (hl : q.length = p.length) (hn : p.length ≤ 1000000) (hp : 0 < p.length) :
  Ctr Try.prog 89 [PtrL [S0, isB (decide (b < 0)), SlM isU (words b.natAbs)], Flat [isB m, isWords us], SlN n0 p, Flat [isB n, isWords ws], isP q, isI (place : Int)] (SlN n0 (mxT b place (zv m us) p (zv n ws) q)) := by
 have h := modhnf_mixedX (S0 := S0) (m := m) (n := n) (us := us) (ws := ws) (xs := p.map nz) (ys := q.map nz) (place := place) hb0 ha (by rw [vals_nz]; exact hx) hb (by rw [vals_nz]; exact hy) h1 h2 hbN (by rw [List.length_map, List.length_map]; exact hl) (by rw [List.length_map]; exact hn)
 rw [vals_nz, vals_nz] at h
 refine h.toN fun w F vs hv => ?_
 match vs, hv with
 | [_, _, _, _, _, _], ⟨g1, g2, g3, g4, g5, g6, g7⟩ => exact ⟨⟨g1, g2, SlN.sl _ _ _ g3, g4, g5, g6, g7⟩, SlN.new g3 hp⟩
 | [], hv => exact hv.elim
 | [_], hv => exact hv.2.elim
 | [_, _], hv => exact hv.2.2.elim
 | [_, _, _], hv => exact hv.2.2.2.elim
 | [_, _, _, _], hv => exact hv.2.2.2.2.elim
 | [_, _, _, _, _], hv => exact hv.2.2.2.2.2.elim
 | _ :: _ :: _ :: _ :: _ :: _ :: _ :: _, hv => exact hv.2.2.2.2.2.2.elim
theorem modhnf_begun {n : Nat} {b : Int} (hn : n ≤ 64) : CtrX Try.prog 61 [isI (n : Int), Flat [isB (decide (b < 0)), isWords (words b.natAbs)]] ([]) (fun S M => ∃ bt gt rs, S = isPtr bt 0 ∧ M = (some bt, cellM [isGr gt rs.length, isB (decide (b < 0)), SlM isU (words b.natAbs)]) :: grM rowV gt rs :: rs.map rowM ∧ rs.map Prod.snd = tri0 b n n) := by
 refine CtrX.intro Try.func61 rfl (by kernel_rfl) Try.ntmps61 rfl fun w0 F0 => ?_
 refine .cv (Cv.wk (.k 0 rfl (.k 1 rfl .nil))) ?_
 refine .fact (Has.rngI (Has.t (t := 0) rfl)) fun lt0 => ?_
 refine .fact (Has.okZ (Has.t (t := 1) rfl)) fun okz1 => ?_
 refine .seq fun _ k1 => .region (.box (.t rfl) rfl fun b1 => ?_)
 refine st (.as Has.cP) rfl ?_
 refine nl (.thn (k1 _ _ ?_))
 refine .seq fun _ k2 => .region (st (.load (.t rfl) (i := 0) rfl ty30 rfl (Ss' := [_, _]) rfl) rfl ?_)
 refine st (.build [nilS, isB false, SlM isU []] pl61 zero61 (fun _ _ => ⟨rfl, rfl, nilM _ _, trivial⟩) (.cons (.t rfl) rfl rfl rfl .nil) (Z'' := [_, _, _]) rfl) rfl ?_
 refine .box (.t rfl) rfl fun b2 => ?_
 refine st (.as (.t rfl)) rfl ?_
 refine nl (.thn (k2 _ _ ?_))
 refine .seq fun _ k3 => ?_
 refine .seq fun _ k4 => ?_
 refine .cv (Cv.growF (Row) (i := 0) (o := 0) rfl rfl rfl) ?_
 refine .memEq (M' := [grM rowV Gr.nil [], _, _]) rfl ?_
 refine .region (st (.mv (.t rfl)) rfl ?_)
 refine st (.mv (Has.cI 0 rfl)) rfl ?_
 refine nl (.thn (k4 _ _ ?_))
 refine .block ?_
 refine .memEq (M' := (_ :: _ :: _ :: ([] : List Row).map rowM)) rfl ?_
 refine .loopF [0, 3, 4, 5, 11] (fun (z : { z : Nat × Gr Row × List Row // z.1 ≤ n ∧ z.2.2.map Prod.snd = tri0 b n z.1 }) => match z with | ⟨(i, gt, rs), hI⟩ => [(12, isI (i : Int))]) (fun M => fun (z : { z : Nat × Gr Row × List Row // z.1 ≤ n ∧ z.2.2.map Prod.snd = tri0 b n z.1 }) => match z with | ⟨(i, gt, rs), hI⟩ => (grM rowV gt rs :: (some b2, cellM [isGr gt rs.length, isB (decide (b < 0)), SlM isU (words b.natAbs)]) :: (some b1, cellM [isB (decide (b < 0)), SlM isU (words b.natAbs)]) :: rs.map rowM)) (fun (z : { z : Nat × Gr Row × List Row // z.1 ≤ n ∧ z.2.2.map Prod.snd = tri0 b n z.1 }) => match z with | ⟨(i, gt, rs), hI⟩ => n - i) (⟨(0, Gr.nil, []), Nat.zero_le _, rfl⟩) (Cv.mem (.cons (t := 12) (Has.t' rfl ?_) (.k 0 rfl (.k 3 rfl (.k 4 rfl (.k 5 rfl (.k 11 rfl .nil)))))) ?_) ?_
 ·rfl
 ·rfl
 rintro ⟨⟨i, gt, rs⟩, hI⟩ K5 hK5
 refine .cv (Cv.wk (.k 12 rfl (.k 0 rfl (.k 3 rfl (.k 4 rfl (.k 5 rfl (.k 11 rfl .nil))))))) ?_
 refine .memEq (M' := (grM rowV gt rs :: (some b2, cellM [isGr gt rs.length, isB (decide (b < 0)), SlM isU (words b.natAbs)]) :: (some b1, cellM [isB (decide (b < 0)), SlM isU (words b.natAbs)]) :: rs.map rowM)) rfl ?_
 simp only [] at hI
 obtain ⟨hi, hrs⟩ := hI
 have hrl : rs.length = i := by have := congrArg List.length hrs; rwa [List.length_map, tri0_len] at this
 refine .seq fun _ k6 => .region (st (.ltI (.t rfl) (.t rfl)) rfl ?_)
 refine nl (.thn (k6 _ _ ?_))
 refine .seq fun _ k7 => ?_
 refine .cond (.t rfl) (fun hc1 => ?_) (fun hc1 => ?_)
 ·have hc1 := BP.t hc1
  refine .skip ?_
  refine .thn (k7 _ _ ?_)
  refine .seq fun _ k8 => ?_
  refine .block ?_
  refine .seq fun _ k9 => .region (st (.mv (.t rfl)) rfl ?_)
  refine st (.as (.t rfl)) rfl ?_
  refine nl (.thn (k9 _ _ ?_))
  refine .seq fun _ k10 => .region (st (.mv (.t rfl)) rfl ?_)
  refine .makeK (fk := zc) (u := (false, [])) (n := n) (c := n) sl22 ty30 zero30 (fun _ _ => ⟨rfl, nilM _ _, trivial⟩) zc_len by30 (Has.t' rfl rfl) (Has.t' rfl rfl) ⟨by omega, by omega⟩ rfl fun b3 => ?_
  refine st (.as (.t rfl)) rfl ?_
  refine nl (.thn (k10 _ _ ?_))
  refine .seq fun _ k11 => .region (st (.mv (.t rfl)) rfl ?_)
  refine st (.mv (.t rfl)) rfl (st (.load (.t rfl) (i := 3) rfl ty30 rfl (Ss' := [_, _]) rfl) rfl ?_)
  refine st (.eq (.ixWin sl22 ty30 (.t rfl) (.t rfl) ⟨by omega, by omega⟩) (isPtr_eq (by first | exact ixo0 | exact ixo2 | exact ixo1))) rfl ?_
  refine .storeK (z := nz b) zc_len (.t rfl) (.t rfl) (i := 0) rfl ty30 (by rw [List.length_replicate]; omega) (M' := ((_, _) :: _ :: _ :: _ :: _)) rfl ?_
  refine nl (.thn (k11 _ _ ?_))
  refine .region (.cv (Cv.trans (Cv.winRow (t := 7) (i := 0) (ys := (tr0 b n i).map nz) rfl rfl (tr0_set (by omega)) (by rw [List.length_map, tr0_len])) (Cv.memEq (M' := (grMK zc ⟨some b3, n, []⟩ ((tr0 b n i).map nz) :: grM rowV gt rs :: (some b2, cellM [isGr gt rs.length, isB (decide (b < 0)), SlM isU (words b.natAbs)]) :: (some b1, cellM [isB (decide (b < 0)), SlM isU (words b.natAbs)]) :: rs.map rowM)) rfl)) ?_)
  refine st (.mv (.t rfl)) rfl (st (.mv (.t rfl)) rfl ?_)
  refine st (.nilc (.t rfl)) rfl ?_
  refine st (.fieldAddr (.t rfl) fld61_0 ty59) rfl (st (.load1 (.t rfl) (i := 2) rfl ty59 rfl) rfl ?_)
  refine st (.mv (.t rfl)) rfl (st (.buildS [nilS] sl59 ty22 zero22 (fun _ _ => ⟨rfl, trivial⟩) rfl rfl (.cons (.t rfl) rfl rfl rfl .nil) rfl (S := SlM rowV [((⟨some b3, n, []⟩ : Gr (Bool × List Nat)), tr0 b n i)]) rfl) rfl ?_)
  refine .appendG (f := rowV) (u := (Gr.nil, [])) sl59 ty22 zero22 (fun _ _ => ⟨gr0, trivial⟩) (fun _ => inferInstance) by22 (.t rfl) (i := 1) rfl (.t rfl) (by rw [hrl]; show i + 1 ≤ _; omega) (by simp) rfl fun gr1 => ?_
  refine .memEq (M' := (_ :: grM _ _ _ :: _ :: _ :: _)) rfl ?_
  refine st (.nilc (.t rfl)) rfl ?_
  refine st (.fieldAddr (.t rfl) fld61_0 ty59) rfl ?_
  refine .store (.t rfl) (.t rfl) (i := 2) rfl ty59 rfl rfl (Ss' := [_, _, _]) rfl (M' := (_ :: _ :: (some _, cellM [_, _, _]) :: _ :: _)) rfl ?_
  refine nl ?_
  refine .bln ?_
  refine .thn (k8 _ _ ?_)
  refine .region (st (.addI (.t rfl) (Has.cI 1 rfl) (by first | omega | assumption) (by first | omega | assumption)) rfl ?_)
  refine st (.mv (.t rfl)) rfl ?_
  refine nl ?_
  refine .thn ?_
  refine hK5 (⟨(i + 1, gr1, rs ++ [((⟨some b3, n, []⟩ : Gr (Bool × List Nat)), tr0 b n i)]), by show i + 1 ≤ n; omega, by show (rs ++ [((⟨some b3, n, []⟩ : Gr (Bool × List Nat)), tr0 b n i)]).map Prod.snd = _; rw [List.map_append, hrs, ← tri0_succ]; rfl⟩) _ _ ?_ (Cv.trans (Cv.perm perm_end) (Cv.mem (.cons (t := 12) (Has.t' rfl ?_) (.k 0 rfl (.k 3 rfl (.k 4 rfl (.k 5 rfl (.k 11 rfl .nil)))))) ?_))
  ·show n - (i + 1) < n - i; omega
  ·exact isI_eq (by omega)
  ·show _ = grM rowV gr1 (rs ++ [_]) :: (some b2, cellM [isGr gr1 (rs ++ [_]).length, _, _]) :: _ :: (rs ++ [_]).map rowM; rw [List.map_append, List.length_append]; rfl
 ·have hc1 := BP.f hc1
  refine .exit ?_
  refine .the ?_
  refine .the ?_
  refine .blh ?_
  refine .thn (k3 _ _ ?_)
  refine .cv (Cv.wk (.k 4 rfl (.k 5 rfl .nil))) ?_
  refine .seq fun _ k12 => ?_
  refine .cv (Cv.drop ((.cons_cons _ (.cons_cons _ (.cons _ (List.Sublist.refl _)))))) ?_
  refine .cv (Cv.wk (.k 4 rfl (.k 5 rfl .nil))) ?_
  refine .cv (Cv.perm (List.Perm.swap _ _ _)) ?_
  refine .region (st (.mv (.t rfl)) rfl ?_)
  refine st (.as (.t rfl)) rfl ?_
  refine nl (.thn (k12 _ _ ?_))
  refine .ret ?_
  refine rtX1 (.inl rfl) Try.results61 rfl (.tmp (.t rfl) .nil) ?_
  exact ⟨b2, gt, rs, rfl, rfl, by rw [hrs, show i = n by omega]⟩
theorem modhnf_put {b : Int} {n K n0 : Nat} {gt : Gr (Option (List Int))} {rows : List (List Int)} {v0 : List Int} (hb : 0 < b) (hn : n ≤ 64) (hK : K ≤ 30000000) (hbK : (List.length (words b.natAbs)) ≤ K) (hT : TriR b n rows) (hv : VR b n 0 v0) : CtrX Try.prog 63 [PtrL [isGr gt n, isB (decide (b < 0)), SlM isU (words b.natAbs)], isP v0] ([grM (tN n0) gt (rows.map some)]) (fun S M => S = isTup [] ∧ M = [grM (tN n0) gt ((putT b rows v0).map some)]) := by
 refine CtrX.intro Try.func63 rfl (by kernel_rfl) Try.ntmps63 rfl fun w0 F0 => ?_
 refine .cv (Cv.wk (.k 0 rfl (.k 1 rfl .nil))) ?_
 refine .seq fun _ k1 => .region (st (.mv (.t rfl)) rfl ?_)
 refine st (.nilcP (.t rfl)) rfl ?_
 refine st (.fieldAddrP (.t rfl) fld61_0 ty59 (Ss' := [_, _, _]) rfl) rfl ?_
 refine st (.loadP1 (.t rfl) ty59) rfl ?_
 refine st (.len sl59 (.t rfl)) rfl (st (.mv (Has.cI 0 rfl)) rfl ?_)
 refine nl (.thn (k1 _ _ ?_))
 refine .block ?_
 refine .loopF [0, 17] (fun (z : { z : Nat × List (List Int) × List Int // z.1 ≤ n ∧ pss b (rows, v0) z.1 = z.2 }) => match z with | ⟨(k, rs, v), hI⟩ => [(18, isI (k : Int)), (1, isP v)]) (fun M => fun (z : { z : Nat × List (List Int) × List Int // z.1 ≤ n ∧ pss b (rows, v0) z.1 = z.2 }) => match z with | ⟨(k, rs, v), hI⟩ => [grM (tN n0) gt (rs.map some)]) (fun (z : { z : Nat × List (List Int) × List Int // z.1 ≤ n ∧ pss b (rows, v0) z.1 = z.2 }) => match z with | ⟨(k, rs, v), hI⟩ => n - k) (⟨(0, rows, v0), Nat.zero_le _, rfl⟩) (Cv.mem (.cons (t := 18) (Has.t' rfl ?_) (.cons (t := 1) (Has.t' rfl ?_) (.k 0 rfl (.k 17 rfl .nil)))) ?_) ?_
 ·rfl
 ·rfl
 ·rfl
 rintro ⟨⟨k, rs, v⟩, hI⟩ K2 hK2
 refine .cv (Cv.wk (.k 18 rfl (.k 1 rfl (.k 0 rfl (.k 17 rfl .nil))))) ?_
 refine .memEq (M' := [grM (tN n0) gt (rs.map some)]) rfl ?_
 simp only [] at hI
 obtain ⟨hk, hps⟩ := hI
 have hok := pss_ok hb hT hv k hk
 rw [hps] at hok
 obtain ⟨hTk, hvk⟩ := hok
 simp only [] at hTk hvk
 have hvB := hvk.bd hbK
 have hvc := hvB k
 have hvl := hvk.len
 have hmv : (v.map nz).length = n := by rw [List.length_map, hvl]
 have hrl := hTk.len
 have hrm : (rs.map some).length = n := by rw [List.length_map, hrl]
 refine .seq fun _ k3 => .region (st (.ltI (.t rfl) (.t rfl)) rfl ?_)
 refine nl (.thn (k3 _ _ ?_))
 refine .seq fun _ k4 => ?_
 refine .cond (.t rfl) (fun hc1 => ?_) (fun hc1 => ?_)
 ·have hc1 := BP.t hc1
  obtain ⟨p, hp⟩ : ∃ p, rs[k]? = some p := ⟨_, List.getElem?_eq_getElem (by omega)⟩
  have hpl := hTk.row k p hp
  have hpB := hTk.bd hbK hp
  have hpc := hpB k
  have hpd := hTk.dia k p hp
  have hxn := xgx_nw (cf p k) (cf v k) hvc
  have hyn := xgy_nw (cf p k) (cf v k) hpc
  have hgp := xgg_pos (b := (cf v k)) hpd.1
  have hg0 : ¬ (xgg (cf p k) (cf v k)) = 0 := by omega
  have hgn : (List.length (words (xgg (cf p k) (cf v k)).natAbs)) ≤ K := nw_le_b (by omega) (Int.le_trans (xgg_le hpd.1) hpd.2) hbK
  have hun := nz_tdiv (cf p k) (xgg (cf p k) (cf v k))
  have hwn := nz_tdiv (cf v k) (xgg (cf p k) (cf v k))
  have hpm : (p.map nz).length = n := by rw [List.length_map, hpl]
  have hps2 : (rs.map some)[k]? = some (some p) := by rw [List.getElem?_map, hp]; rfl
  refine .skip ?_
  refine .thn (k4 _ _ ?_)
  refine .seq fun _ k5 => ?_
  refine .block ?_
  refine .seq fun _ k6 => .region (st (.mv (.t rfl)) rfl ?_)
  refine st (.as (.t rfl)) rfl ?_
  refine nl (.thn (k6 _ _ ?_))
  refine .seq fun _ k7 => ?_
  refine .seq fun _ k8 => .region (st (.mv (.t rfl)) rfl ?_)
  refine st (.mv (.t rfl)) rfl (st (.ixK sl22 ty30 (.t rfl) (.t rfl) zc_len ⟨by omega, by omega⟩ (getZ (i := k) (by omega))) rfl ?_)
  refine st (.loadP (.t rfl) ty30 rfl (Ss' := [_, _]) rfl) rfl ?_
  refine st (.eq (.call (zint_Sign (by rw [val_words]; omega)) (.cons (.t rfl) .nil)) ((show _ = isI (sgn (cf v k)) from by rw [zv_nz]))) rfl ?_
  refine st (.eqI (.t rfl) (Has.cI 0 rfl)) rfl ?_
  refine nl (.thn (k8 _ _ ?_))
  refine .cond (.t rfl) (fun hc2 => ?_) (fun hc2 => ?_)
  ·have hc2 := BP.t hc2
   have h0 : cf v k = 0 := (sgn_eq0 _).1 hc2
   refine .exit ?_
   refine .the ?_
   refine .blh ?_
   refine .thn (k5 _ _ ?_)
   refine .region (st (.addI (.t rfl) (Has.cI 1 rfl) (by first | omega | assumption) (by first | omega | assumption)) rfl ?_)
   refine st (.mv (.t rfl)) rfl ?_
   refine nl ?_
   refine .thn ?_
   refine hK2 (⟨(k + 1, rs, v), by show k + 1 ≤ n; omega, by show pst b (pss b (rows, v0) k) k = _; rw [hps, pst_no h0]⟩) _ _ ?_ (Cv.mem (.cons (t := 18) (Has.t' rfl ?_) (.cons (t := 1) (Has.t' rfl ?_) (.k 0 rfl (.k 17 rfl .nil)))) ?_)
   ·show n - (k + 1) < n - k; omega
   ·exact isI_eq (by omega)
   ·rfl
   ·rfl
  ·have hc2 := BP.f hc2
   have h0 : ¬ cf v k = 0 := fun e => hc2 ((sgn_eq0 _).2 e)
   refine .skip ?_
   refine .thn (k7 _ _ ?_)
   refine .seq fun _ k9 => .region (st (.mv (.t rfl)) rfl ?_)
   refine st (.nilcP (.t rfl)) rfl ?_
   refine st (.fieldAddrP (.t rfl) fld61_0 ty59 (Ss' := [_, _, _]) rfl) rfl ?_
   refine st (.loadP1 (.t rfl) ty59) rfl ?_
   refine st (.mv (.t rfl)) rfl (st (.ixGr sl59 ty22 (.t rfl) (.t rfl) ⟨by omega, by omega⟩) rfl ?_)
   refine st (.eq (.loadGM (.t rfl) (i := 0) rfl ty22 hps2) ((show tN n0 (some p) = SlN n0 p from rfl))) rfl ?_
   refine st (.as (.t rfl)) rfl ?_
   refine nl (.thn (k9 _ _ ?_))
   refine .seq fun _ k10 => ?_
   refine .drh [true] (Ms := [_]) rfl ?_
   refine .s [] rfl rfl rfl (.o rfl (.mv (Has.wk (.t rfl) SlN.sl))) ?_
   refine .s [] rfl rfl rfl (.o rfl (.mv (.t rfl))) ?_
   refine .s [35, 36] rfl rfl rfl (.o rfl (.ixK sl22 ty30 (.t rfl) (.t rfl) zc_len ⟨by omega, by omega⟩ (getZ (i := k) (by omega)))) ?_
   refine .s [37] rfl rfl rfl (.o rfl (.loadP (.t rfl) ty30 rfl (Ss' := [_, _]) rfl)) ?_
   refine .s [] rfl rfl rfl (.o rfl (.mv (.t rfl))) ?_
   refine .s [] rfl rfl rfl (.o rfl (.mv (.t rfl))) ?_
   refine .s [39, 40] rfl rfl rfl (.o rfl (.ixK sl22 ty30 (.t rfl) (.t rfl) zc_len ⟨by omega, by omega⟩ (getZ (i := k) (by omega)))) ?_
   refine .s [41] rfl rfl rfl (.o rfl (.loadP (.t rfl) ty30 rfl (Ss' := [_, _]) rfl)) ?_
   refine .s [38, 42] rfl rfl rfl (.o rfl (.eq (.call (zint_XgcdA (by rw [val_words]; omega) (by rw [val_words]; omega)) (.cons (.t rfl) (.cons (.t rfl) .nil))) ((show _ = isTup [isZ (xgg (cf p k) (cf v k)), isZ (xgx (cf p k) (cf v k)), isZ (xgy (cf p k) (cf v k))] from by simp only [zv_nz, zv_nf])))) ?_
   refine .s [43] rfl rfl rfl (.o rfl (.mv (.t rfl))) ?_
   refine .s [34] rfl rfl rfl (.o rfl (.ext (.t rfl) rfl)) ?_
   refine .s [34] rfl rfl rfl (.o rfl (.ext (.t rfl) rfl)) ?_
   refine .s [34] rfl rfl rfl (.o rfl (.ext (.t rfl) rfl)) ?_
   refine .als (n1 := 16) (ds := [6, 7, 8]) (zs := [[isB false, SlM isU []], [isB false, SlM isU []], [isB false, SlM isU []]]) rfl (.cons rfl rfl zero30 (fun _ _ => ⟨rfl, nilM _ _, trivial⟩) (.cons rfl rfl zero30 (fun _ _ => ⟨rfl, nilM _ _, trivial⟩) (.cons rfl rfl zero30 (fun _ _ => ⟨rfl, nilM _ _, trivial⟩) .nil))) (.cons_cons _ .slnil) (Cs := [_, _, _]) rfl ?_
   refine .new [44] 0 (Ss' := [_, _]) (Cs' := [cellM [_, _], _, _]) rfl (by kernel_rfl) (by kernel_rfl) rfl rfl rfl (by kernel_rfl) rfl (.t rfl) ty30 rfl rfl rfl rfl ?_
   refine .new [45] 1 (Ss' := [_, _]) (Cs' := [_, cellM [_, _], _]) rfl (by kernel_rfl) (by kernel_rfl) rfl rfl rfl (by kernel_rfl) rfl (.t rfl) ty30 rfl rfl rfl rfl ?_
   refine .fin (n := 18) mixed rfl (by kernel_rfl) (by kernel_rfl) (by kernel_rfl) (fun bs hbs => ?_)
   obtain ⟨b1, b2, b3, rfl⟩ := len3 hbs
   refine .memEq (M' := [_, _, _, _]) rfl ?_
   refine .cv (Cv.wk (.k 0 rfl (.k 17 rfl (.k 18 rfl (.k 1 rfl (.k 19 rfl (.k 20 rfl (.k 4 rfl (.k 21 rfl (.k 22 rfl (.k 23 rfl (.k 24 rfl (.k 25 rfl (.k 26 rfl (.k 27 rfl (.k 28 rfl (.k 29 rfl (.k 30 rfl (.k 31 rfl (.k 32 rfl (.k 33 rfl (.k 5 rfl (.k 35 rfl (.k 36 rfl (.k 37 rfl (.k 38 rfl (.k 39 rfl (.k 40 rfl (.k 41 rfl (.k 42 rfl (.k 43 rfl (.k 34 rfl (.k 44 rfl (.k 45 rfl (.k 46 rfl (.cons (t := 6) (Has.op rfl) (.cons (t := 7) (Has.op rfl) (.cons (t := 8) (Has.op rfl) .nil)))))))))))))))))))))))))))))))))))))) ?_
   refine .store (.t rfl) (.t rfl) (i := 2) rfl ty30 rfl rfl (Ss' := [_, _]) rfl (M' := [_, _, (some _, cellM [_, _]), _]) rfl ?_
   refine nl (.thn (k10 _ _ ?_))
   refine .seq fun _ k11 => ?_
   refine .drh [true, true, true, true] (Ms := [_, _, _, _]) rfl ?_
   refine .s [] rfl rfl rfl (.o rfl (.mv (Has.wk (.t rfl) SlN.sl))) ?_
   refine .s [] rfl rfl rfl (.o rfl (.mv (.t rfl))) ?_
   refine .s [48, 49] rfl rfl rfl (.o rfl (.ixK sl22 ty30 (.t rfl) (.t rfl) zc_len ⟨by omega, by omega⟩ (getZ (i := k) (by omega)))) ?_
   refine .s [50] rfl rfl rfl (.o rfl (.loadP (.t rfl) ty30 rfl (Ss' := [_, _]) rfl)) ?_
   refine .s [] rfl rfl rfl (.o rfl (.load (.t rfl) (i := 0) rfl ty30 rfl (Ss' := [_, _]) rfl)) ?_
   refine .s [51, 52] rfl rfl rfl (.o rfl (.call (zint_Exact (by rw [val_words]; omega) (by rw [val_words]; omega)) (.cons (.t rfl) (.cons (.t rfl) .nil)))) ?_
   refine .s [53] rfl rfl rfl (.o rfl (.mv (.t rfl))) ?_
   refine .s [47] rfl rfl rfl (.o rfl (.eq (.ext (.t rfl) rfl) ((show _ = isZ ((cf p k).tdiv (xgg (cf p k) (cf v k))) from isZ_eq (by simp only [zv_nz, zv_nf]; exact if_pos ⟨hg0, Int.tmod_eq_zero_of_dvd (xgg_left _ _)⟩))))) ?_
   refine .s [47] rfl rfl rfl (.o rfl (.ext (.t rfl) rfl)) ?_
   refine .als (n1 := 10) (ds := [9]) (zs := [[isB false, SlM isU []]]) rfl (.cons rfl rfl zero30 (fun _ _ => ⟨rfl, nilM _ _, trivial⟩) .nil) (.cons_cons _ (.cons_cons _ (.cons_cons _ (.cons_cons _ .slnil)))) (Cs := [_]) rfl ?_
   refine .new [54] 0 (Ss' := [_, _]) (Cs' := [cellM [_, _]]) rfl (by kernel_rfl) (by kernel_rfl) rfl rfl rfl (by kernel_rfl) rfl (.t rfl) ty30 rfl rfl rfl rfl ?_
   refine .fin (n := 11) mixed rfl (by kernel_rfl) (by kernel_rfl) (by kernel_rfl) (fun bs hbs => ?_)
   obtain ⟨b4, rfl⟩ := len1 hbs
   refine .memEq (M' := [_, _, _, _, _]) rfl ?_
   refine .cv (Cv.wk (.k 0 rfl (.k 17 rfl (.k 18 rfl (.k 1 rfl (.k 19 rfl (.k 20 rfl (.k 4 rfl (.k 21 rfl (.k 22 rfl (.k 23 rfl (.k 24 rfl (.k 25 rfl (.k 26 rfl (.k 27 rfl (.k 28 rfl (.k 29 rfl (.k 30 rfl (.k 31 rfl (.k 32 rfl (.k 33 rfl (.k 5 rfl (.k 35 rfl (.k 36 rfl (.k 37 rfl (.k 38 rfl (.k 39 rfl (.k 40 rfl (.k 41 rfl (.k 42 rfl (.k 43 rfl (.k 34 rfl (.k 44 rfl (.k 45 rfl (.k 46 rfl (.k 6 rfl (.k 7 rfl (.k 8 rfl (.k 48 rfl (.k 49 rfl (.k 50 rfl (.k 51 rfl (.k 52 rfl (.k 53 rfl (.k 47 rfl (.k 54 rfl (.k 55 rfl (.cons (t := 9) (Has.op rfl) .nil)))))))))))))))))))))))))))))))))))))))))))))))) ?_
   refine st (.as (.t rfl)) rfl ?_
   refine nl (.thn (k11 _ _ ?_))
   refine .seq fun _ k12 => ?_
   refine .drh [true, true, true, true, true] (Ms := [_, _, _, _, _]) rfl ?_
   refine .s [] rfl rfl rfl (.o rfl (.mv (.t rfl))) ?_
   refine .s [] rfl rfl rfl (.o rfl (.mv (.t rfl))) ?_
   refine .s [57, 58] rfl rfl rfl (.o rfl (.ixK sl22 ty30 (.t rfl) (.t rfl) zc_len ⟨by omega, by omega⟩ (getZ (i := k) (by omega)))) ?_
   refine .s [59] rfl rfl rfl (.o rfl (.loadP (.t rfl) ty30 rfl (Ss' := [_, _]) rfl)) ?_
   refine .s [] rfl rfl rfl (.o rfl (.load (.t rfl) (i := 1) rfl ty30 rfl (Ss' := [_, _]) rfl)) ?_
   refine .s [60, 61] rfl rfl rfl (.o rfl (.call (zint_Exact (by rw [val_words]; omega) (by rw [val_words]; omega)) (.cons (.t rfl) (.cons (.t rfl) .nil)))) ?_
   refine .s [62] rfl rfl rfl (.o rfl (.mv (.t rfl))) ?_
   refine .s [56] rfl rfl rfl (.o rfl (.eq (.ext (.t rfl) rfl) ((show _ = isZ ((cf v k).tdiv (xgg (cf p k) (cf v k))) from isZ_eq (by simp only [zv_nz, zv_nf]; exact if_pos ⟨hg0, Int.tmod_eq_zero_of_dvd (xgg_right _ _)⟩))))) ?_
   refine .s [56] rfl rfl rfl (.o rfl (.ext (.t rfl) rfl)) ?_
   refine .als (n1 := 10) (ds := [11]) (zs := [[isB false, SlM isU []]]) rfl (.cons rfl rfl zero30 (fun _ _ => ⟨rfl, nilM _ _, trivial⟩) .nil) (.cons_cons _ (.cons_cons _ (.cons_cons _ (.cons_cons _ (.cons_cons _ .slnil))))) (Cs := [_]) rfl ?_
   refine .new [63] 0 (Ss' := [_, _]) (Cs' := [cellM [_, _]]) rfl (by kernel_rfl) (by kernel_rfl) rfl rfl rfl (by kernel_rfl) rfl (.t rfl) ty30 rfl rfl rfl rfl ?_
   refine .fin (n := 11) mixed rfl (by kernel_rfl) (by kernel_rfl) (by kernel_rfl) (fun bs hbs => ?_)
   obtain ⟨b5, rfl⟩ := len1 hbs
   refine .memEq (M' := [_, _, _, _, _, _]) rfl ?_
   refine .cv (Cv.wk (.k 0 rfl (.k 17 rfl (.k 18 rfl (.k 1 rfl (.k 19 rfl (.k 20 rfl (.k 4 rfl (.k 21 rfl (.k 22 rfl (.k 23 rfl (.k 24 rfl (.k 25 rfl (.k 26 rfl (.k 27 rfl (.k 28 rfl (.k 29 rfl (.k 30 rfl (.k 31 rfl (.k 32 rfl (.k 33 rfl (.k 5 rfl (.k 35 rfl (.k 36 rfl (.k 37 rfl (.k 38 rfl (.k 39 rfl (.k 40 rfl (.k 41 rfl (.k 42 rfl (.k 43 rfl (.k 34 rfl (.k 44 rfl (.k 45 rfl (.k 46 rfl (.k 6 rfl (.k 7 rfl (.k 8 rfl (.k 48 rfl (.k 49 rfl (.k 50 rfl (.k 51 rfl (.k 52 rfl (.k 53 rfl (.k 47 rfl (.k 54 rfl (.k 55 rfl (.k 9 rfl (.k 57 rfl (.k 58 rfl (.k 59 rfl (.k 60 rfl (.k 61 rfl (.k 62 rfl (.k 56 rfl (.k 63 rfl (.k 64 rfl (.cons (t := 11) (Has.op rfl) .nil)))))))))))))))))))))))))))))))))))))))))))))))))))))))))) ?_
   refine st (.as (.t rfl)) rfl ?_
   refine nl (.thn (k12 _ _ ?_))
   refine .dry mixed ?_
   refine .tk 0 rfl rfl rfl rfl (OKY.mv (.t rfl)) ?_
   refine .tk 4 rfl rfl rfl rfl (OKY.mv (.t rfl)) ?_
   refine .tk 5 rfl rfl rfl rfl (OKY.mv (.t rfl)) ?_
   refine .tk 7 rfl rfl rfl rfl (OKY.mv (.t rfl)) ?_
   refine .tk 9 rfl rfl rfl rfl (OKY.mv (.t rfl)) ?_
   refine .tk 10 rfl rfl rfl rfl (OKY.mv (.t rfl)) ?_
   refine .tk 12 rfl rfl rfl rfl (OKY.mv (.t rfl)) ?_
   refine .tk 15 rfl rfl rfl rfl (OKY.mv (Has.wk (.t rfl) SlN.sl)) ?_
   refine .tk 17 rfl rfl rfl rfl (OKY.mv (.t rfl)) ?_
   refine .tk 18 rfl rfl rfl rfl (OKY.mv (.t rfl)) ?_
   refine .go [] ?_
   refine .s 1 [] rfl rfl rfl (.o rfl (.nilcP (.t rfl))) ?_
   refine .s 2 [66] rfl rfl rfl (.o rfl (.fieldAddrP (.t rfl) fld61_0 ty59 (Ss' := [_, _, _]) rfl)) ?_
   refine .s 3 [67] rfl rfl rfl (.o rfl (.loadP1 (.t rfl) ty59)) ?_
   refine .s 6 [] rfl rfl rfl (.o rfl (.load (.t rfl) (i := 3) rfl ty30 rfl (Ss' := [_, _]) rfl)) ?_
   refine .s 8 [] rfl rfl rfl (.o rfl (.load (.t rfl) (i := 4) rfl ty30 rfl (Ss' := [_, _]) rfl)) ?_
   refine .s 11 [71, 73] rfl rfl rfl (.o rfl (.eq (.call (modhnf_mixedN (b := b) (A := K + 1) (D := K + 2) (K := K) hb (by rw [val_words]; omega) hpB (by rw [val_words]; omega) hvB (by omega) (by omega) (by omega) (by omega) (by omega) (by omega)) (.cons (.t rfl) (.cons (.t rfl) (.cons (.t rfl) (.cons (.t rfl) (.cons (.t rfl) (.cons (.t rfl) .nil))))))) ((show _ = tN n0 (some (mxT b k (xgx (cf p k) (cf v k)) p (xgy (cf p k) (cf v k)) v)) from congrArg (SlN n0) (by simp only [zv_nf]))))) ?_
   refine .s 13 [] rfl rfl rfl (.o rfl (.load (.t rfl) (i := 0) rfl ty30 rfl (Ss' := [_, _]) rfl)) ?_
   refine .s 14 [78] rfl rfl rfl (.o rfl (.call (zint_Neg (by rw [val_words]; omega)) (.cons (.t rfl) .nil))) ?_
   refine .s 16 [] rfl rfl rfl (.o rfl (.load (.t rfl) (i := 1) rfl ty30 rfl (Ss' := [_, _]) rfl)) ?_
   refine .s 19 [79, 81] rfl rfl rfl (.o rfl (.eq (.call ((modhnf_mixedX (b := b) (xs := p.map nz) (ys := v.map nz) (A := K) (D := K) (K := K) hb (by rw [val_words, zv_nf, Int.natAbs_neg]; omega) (by rw [vals_nz]; exact hpB) (by rw [val_words]; omega) (by rw [vals_nz]; exact hvB) (by omega) (by omega) (by omega) (by rw [List.length_map, List.length_map]; omega) (by rw [List.length_map]; omega)).toP) (.cons (.t rfl) (.cons (.t rfl) (.cons (.t rfl) (.cons (.t rfl) (.cons (.t rfl) (.cons (.t rfl) .nil))))))) ((show _ = isP (mxT b k (-((cf v k).tdiv (xgg (cf p k) (cf v k)))) p ((cf p k).tdiv (xgg (cf p k) (cf v k))) v) from isPl_eq (by simp only [zv_nf, vals_nz]))))) ?_
   refine .fin [20, 21, 22] (by kernel_rfl) (by kernel_rfl) (fun _ _ _ _ _ h => h) (by kernel_rfl) (by kernel_rfl) (by kernel_rfl) (by kernel_rfl) (by kernel_rfl) (by kernel_rfl) (by kernel_rfl) (by kernel_rfl) (by kernel_rfl) ?_
   refine .cv (Cv.wk (.k 0 rfl (.k 17 rfl (.k 18 rfl (.k 1 rfl (.k 19 rfl (.k 20 rfl (.k 4 rfl (.k 21 rfl (.k 22 rfl (.k 23 rfl (.k 24 rfl (.k 25 rfl (.k 26 rfl (.k 27 rfl (.k 28 rfl (.k 29 rfl (.k 30 rfl (.k 31 rfl (.k 32 rfl (.k 33 rfl (.k 5 rfl (.k 35 rfl (.k 36 rfl (.k 37 rfl (.k 38 rfl (.k 39 rfl (.k 40 rfl (.k 41 rfl (.k 42 rfl (.k 43 rfl (.k 34 rfl (.k 44 rfl (.k 45 rfl (.k 46 rfl (.k 6 rfl (.k 7 rfl (.k 8 rfl (.k 48 rfl (.k 49 rfl (.k 50 rfl (.k 51 rfl (.k 52 rfl (.k 53 rfl (.k 47 rfl (.k 54 rfl (.k 55 rfl (.k 9 rfl (.k 57 rfl (.k 58 rfl (.k 59 rfl (.k 60 rfl (.k 61 rfl (.k 62 rfl (.k 56 rfl (.k 63 rfl (.k 64 rfl (.k 11 rfl (.k 65 rfl (.k 69 rfl (.k 70 rfl (.k 72 rfl (.k 74 rfl (.k 75 rfl (.k 77 rfl (.k 80 rfl (.k 82 rfl (.k 83 rfl (.k 66 rfl (.k 67 rfl (.k 68 rfl (.k 71 rfl (.k 73 rfl (.k 76 rfl (.k 78 rfl (.k 79 rfl (.k 81 rfl (.k 84 rfl .nil)))))))))))))))))))))))))))))))))))))))))))))))))))))))))))))))))))))))))))))) ?_
   refine st (.ixGr sl59 ty22 (.t rfl) (.t rfl) ⟨by omega, by omega⟩) rfl ?_
   refine .storeGM (z := some (mxT b k (xgx (cf p k) (cf v k)) p (xgy (cf p k) (cf v k)) v)) (.t rfl) (.t rfl) (i := 5) rfl ty22 (by omega) (M' := [_, _, _, _, _, grM _ _ _]) rfl ?_
   refine st (.as (.t rfl)) rfl ?_
   refine nl ?_
   refine .bln ?_
   refine .thn (k5 _ _ ?_)
   refine .region (st (.addI (.t rfl) (Has.cI 1 rfl) (by first | omega | assumption) (by first | omega | assumption)) rfl ?_)
   refine st (.mv (.t rfl)) rfl ?_
   refine nl ?_
   refine .thn ?_
   refine hK2 (⟨(k + 1, rs.set k (mxT b k (xgx (cf p k) (cf v k)) p (xgy (cf p k) (cf v k)) v), mxT b k (-((cf v k).tdiv (xgg (cf p k) (cf v k)))) p ((cf p k).tdiv (xgg (cf p k) (cf v k))) v), by show k + 1 ≤ n; omega, by show pst b (pss b (rows, v0) k) k = _; rw [hps]; exact pst_go hp h0⟩) _ _ ?_ (Cv.trans (Cv.drop ((.cons _ (.cons _ (.cons _ (.cons _ (.cons _ (.cons_cons _ .slnil)))))))) (Cv.mem (.cons (t := 18) (Has.t' rfl ?_) (.cons (t := 1) (Has.t' rfl ?_) (.k 0 rfl (.k 17 rfl .nil)))) ?_))
   ·show n - (k + 1) < n - k; omega
   ·exact isI_eq (by omega)
   ·rfl
   ·show [grM (tN n0) gt ((rs.map some).set k (some _))] = [grM (tN n0) gt ((rs.set k _).map some)]; rw [List.map_set]
 ·have hc1 := BP.f hc1
  refine .exit ?_
  refine .the ?_
  refine .the ?_
  refine .blh ?_
  refine rtX0D (.cons_cons _ .slnil) (.inr rfl) Try.results63 rfl ?_
  exact ⟨rfl, by unfold putT; rw [hT.len, show n = k by omega, hps]⟩
theorem tri_round {gt : Gr Row} {rs : List Row} {i j : Nat} {r : Row} {N : List Int} (h : rs[i]? = some r) (hl : N.length = r.2.length) (hj : j = r.2.length) : (grM rowV gt rs :: (rs.set i (r.1, mixZ N r.2 j)).map rowM : Mem) = grM rowV gt (rs.set i (r.1, N)) :: (rs.set i (r.1, N)).map rowM := by
 subst hj; rw [mixZ_all hl, tab_set h hl]
theorem mixZ_start {a b c : Option Nat × MP} {rs : List Row} {i : Nat} {r : Row} {N : List Int} (h : rs[i]? = some r) : (a :: b :: c :: rs.map rowM : Mem) = a :: b :: c :: (rs.set i (r.1, mixZ N r.2 0)).map rowM := by
 rw [mixZ_zero, show rs.set i (r.1, r.2) = rs from set_same h]
theorem mx2_get {x y : Int} {p q : List Int} {k : Nat} (h : k < p.length) : (mx2 x p y q)[k]? = some (x * cf p k + y * cf q k) := by
 unfold mx2; rw [List.getElem?_map, List.getElem?_range h]; rfl
theorem modhnf_reduce {b : Int} {n K : Nat} {gt : Gr Row} {rs : List Row} (hn : n ≤ 64) (hbK : (List.length (words b.natAbs)) ≤ K) (hT : TriR b n (rs.map Prod.snd)) (hK : (K + 2) * 2 ^ n ≤ 80000000) : CtrX Try.prog 64 [PtrL [isGr gt n, isB (decide (b < 0)), SlM isU (words b.natAbs)]] (grM rowV gt rs :: rs.map rowM) (fun S M => ∃ rs', S = isTup [] ∧ M = (grM rowV gt rs' :: rs'.map rowM) ∧ rs'.map Prod.snd = rdT (rs.map Prod.snd) n) := by
 refine CtrX.intro Try.func64 rfl (by kernel_rfl) Try.ntmps64 rfl fun w0 F0 => ?_
 refine .cv (Cv.wk (.k 0 rfl .nil)) ?_
 have hrn : (rs.map Prod.snd).length = n := hT.len
 refine .seq fun _ k1 => .region (st (.mv (.t rfl)) rfl ?_)
 refine st (.nilcP (.t rfl)) rfl ?_
 refine st (.fieldAddrP (.t rfl) fld61_0 ty59 (Ss' := [_, _, _]) rfl) rfl ?_
 refine st (.loadP1 (.t rfl) ty59) rfl ?_
 refine st (.len sl59 (.t rfl)) rfl (st (.mv (Has.cI 0 rfl)) rfl ?_)
 refine nl (.thn (k1 _ _ ?_))
 refine .block ?_
 refine .loopF [0, 12, 13] (fun (z : { z : Nat × List Row // z.1 ≤ n ∧ z.2.map Prod.snd = rdT (rs.map Prod.snd) z.1 }) => match z with | ⟨(k, rs1), hI⟩ => [(14, isI (k : Int))]) (fun M => fun (z : { z : Nat × List Row // z.1 ≤ n ∧ z.2.map Prod.snd = rdT (rs.map Prod.snd) z.1 }) => match z with | ⟨(k, rs1), hI⟩ => (grM rowV gt rs1 :: rs1.map rowM)) (fun (z : { z : Nat × List Row // z.1 ≤ n ∧ z.2.map Prod.snd = rdT (rs.map Prod.snd) z.1 }) => match z with | ⟨(k, rs1), hI⟩ => n - k) (⟨(0, rs), Nat.zero_le _, rfl⟩) (Cv.mem (.cons (t := 14) (Has.t' rfl ?_) (.k 0 rfl (.k 12 rfl (.k 13 rfl .nil)))) ?_) ?_
 ·rfl
 ·rfl
 rintro ⟨⟨k, rs1⟩, hI⟩ K2 hK2
 refine .cv (Cv.wk (.k 14 rfl (.k 0 rfl (.k 12 rfl (.k 13 rfl .nil))))) ?_
 refine .memEq (M' := (grM rowV gt rs1 :: rs1.map rowM)) rfl ?_
 simp only [] at hI
 obtain ⟨hk, hrs1⟩ := hI
 have hl1 : rs1.length = n := by have := congrArg List.length hrs1; rwa [List.length_map, rdT_len, hrn] at this
 refine .seq fun _ k3 => .region (st (.ltI (.t rfl) (.t rfl)) rfl ?_)
 refine nl (.thn (k3 _ _ ?_))
 refine .seq fun _ k4 => ?_
 refine .cond (.t rfl) (fun hc1 => ?_) (fun hc1 => ?_)
 ·have hc1 := BP.t hc1
  obtain ⟨rk, hrk⟩ : ∃ rk, rs1[k]? = some rk := ⟨_, List.getElem?_eq_getElem (by omega)⟩
  have hp2 : (K + 2) * 2 ^ k ≤ (K + 2) * 2 ^ n := Nat.mul_le_mul_left _ (Nat.pow_le_pow_right (by decide) hk)
  have hrkD : (rdT (rs.map Prod.snd) k)[k]? = some rk.2 := by rw [← hrs1, List.getElem?_map, hrk]; rfl
  have hbA := rdT_bd hT hbK k hk
  have hrow := rdT_row hT k hk
  have hkpos := rdT_pos hT (show k < n by omega)
  rw [getD_of hrkD] at hkpos
  have hrkl := hrow rk.2 (List.mem_of_getElem? hrkD)
  have hrkB := hbA rk.2 (List.mem_of_getElem? hrkD)
  have hrkm : (rk.2.map nz).length = n := by rw [List.length_map, hrkl]
  have hrkc := hrkB k
  refine .skip ?_
  refine .thn (k4 _ _ ?_)
  refine .seq fun _ k5 => ?_
  refine .block ?_
  refine .seq fun _ k6 => .region (st (.mv (.t rfl)) rfl ?_)
  refine st (.ixGr sl59 ty22 (.t rfl) (.t rfl) ⟨by omega, by omega⟩) rfl ?_
  refine st (.loadGM (.t rfl) (i := 0) rfl ty22 hrk) rfl ?_
  refine st (.as (.t rfl)) rfl (st (.as (.t rfl)) rfl ?_)
  refine nl (.thn (k6 _ _ ?_))
  refine .seq fun _ k7 => .region (st (.mv (.t rfl)) rfl ?_)
  refine st (.mv (Has.cI 0 rfl)) rfl ?_
  refine nl (.thn (k7 _ _ ?_))
  refine .block ?_
  refine .loopF [0, 12, 13, 14, 15, 16, 17, 18, 2, 3, 19] (fun (z : { z : Nat × List Row // z.1 ≤ k ∧ z.2.map Prod.snd = rds (rdT (rs.map Prod.snd) k) k k z.1 ∧ ∀ j, z.1 ≤ j → z.2[j]? = rs1[j]? }) => match z with | ⟨(i, rs2), hI⟩ => [(20, isI (i : Int))]) (fun M => fun (z : { z : Nat × List Row // z.1 ≤ k ∧ z.2.map Prod.snd = rds (rdT (rs.map Prod.snd) k) k k z.1 ∧ ∀ j, z.1 ≤ j → z.2[j]? = rs1[j]? }) => match z with | ⟨(i, rs2), hI⟩ => (grM rowV gt rs2 :: rs2.map rowM)) (fun (z : { z : Nat × List Row // z.1 ≤ k ∧ z.2.map Prod.snd = rds (rdT (rs.map Prod.snd) k) k k z.1 ∧ ∀ j, z.1 ≤ j → z.2[j]? = rs1[j]? }) => match z with | ⟨(i, rs2), hI⟩ => k - i) (⟨(0, rs1), Nat.zero_le _, hrs1, fun j _ => rfl⟩) (Cv.mem (.cons (t := 20) (Has.t' rfl ?_) (.k 0 rfl (.k 12 rfl (.k 13 rfl (.k 14 rfl (.k 15 rfl (.k 16 rfl (.k 17 rfl (.k 18 rfl (.k 2 rfl (.k 3 rfl (.k 19 rfl .nil)))))))))))) ?_) ?_
  ·rfl
  ·rfl
  rintro ⟨⟨i, rs2⟩, hI⟩ K8 hK8
  refine .cv (Cv.wk (.k 20 rfl (.k 0 rfl (.k 12 rfl (.k 13 rfl (.k 14 rfl (.k 15 rfl (.k 16 rfl (.k 17 rfl (.k 18 rfl (.k 2 rfl (.k 3 rfl (.k 19 rfl .nil))))))))))))) ?_
  refine .memEq (M' := (grM rowV gt rs2 :: rs2.map rowM)) rfl ?_
  simp only [] at hI
  obtain ⟨hi, hrs2, hfar⟩ := hI
  have hl2 : rs2.length = n := by have := congrArg List.length hrs2; rwa [List.length_map, rds_len, rdT_len, hrn] at this
  have hrk2 := (hfar k hi).trans hrk
  refine .seq fun _ k9 => .region (st (.ltI (.t rfl) (.t rfl)) rfl ?_)
  refine nl (.thn (k9 _ _ ?_))
  refine .seq fun _ k10 => ?_
  refine .cond (.t rfl) (fun hc2 => ?_) (fun hc2 => ?_)
  ·have hc2 := BP.t hc2
   obtain ⟨r, hr⟩ : ∃ r, rs2[i]? = some r := ⟨_, List.getElem?_eq_getElem (by omega)⟩
   have hrD : (rdT (rs.map Prod.snd) k)[i]? = some r.2 := by rw [← rds_off (t := k) (col := k) (Nat.le_refl i), ← hrs2, List.getElem?_map, hr]; rfl
   have hrl := hrow r.2 (List.mem_of_getElem? hrD)
   have hrB := hbA r.2 (List.mem_of_getElem? hrD)
   have hrm : (r.2.map nz).length = n := by rw [List.length_map, hrl]
   have hrc := hrB k
   have hqn := div_nw hkpos hrc
   refine .skip ?_
   refine .thn (k10 _ _ ?_)
   refine .seq fun _ k11 => ?_
   refine .block ?_
   refine .seq fun _ k12 => .region (st (.mv (.t rfl)) rfl ?_)
   refine st (.as (.t rfl)) rfl ?_
   refine nl (.thn (k12 _ _ ?_))
   refine .seq fun _ k13 => ?_
   refine .drhS (.cons_cons _ (List.Sublist.refl _)) ?_
   refine .s [] rfl rfl rfl (.o rfl (.mv (.t rfl))) ?_
   refine .s [24] rfl rfl rfl (.o rfl (.nilcP (.t rfl))) ?_
   refine .s [25] rfl rfl rfl (.o rfl (.fieldAddrP (.t rfl) fld61_0 ty59 (Ss' := [_, _, _]) rfl)) ?_
   refine .s [26] rfl rfl rfl (.o rfl (.loadP1 (.t rfl) ty59)) ?_
   refine .s [] rfl rfl rfl (.o rfl (.mv (.t rfl))) ?_
   refine .s [27, 28] rfl rfl rfl (.o rfl (.ixGr sl59 ty22 (.t rfl) (.t rfl) ⟨by omega, by omega⟩)) ?_
   refine .s [29] rfl rfl rfl (.o rfl (.loadGM (.t rfl) (i := 0) rfl ty22 hr)) ?_
   refine .s [] rfl rfl rfl (.o rfl (.mv (.t rfl))) ?_
   refine .s [30, 31] rfl rfl rfl (.o rfl (.ixGr sl22 ty30 (.t rfl) (.t rfl) ⟨by omega, by omega⟩)) ?_
   refine .s [32] rfl rfl rfl (.o rfl (.loadGK zc_len (.t rfl) (i := 1 + i) (wkAt (pre := [_]) hr) ty30 (getZ (i := k) (by omega)))) ?_
   refine .s [] rfl rfl rfl (.o rfl (.mv (.t rfl))) ?_
   refine .s [] rfl rfl rfl (.o rfl (.mv (.t rfl))) ?_
   refine .s [34, 35] rfl rfl rfl (.o rfl (.ixGr sl22 ty30 (.t rfl) (.t rfl) ⟨by omega, by omega⟩)) ?_
   refine .s [36] rfl rfl rfl (.o rfl (.loadGK zc_len (.t rfl) (i := 1 + k) (wkAt (pre := [_]) hrk2) ty30 (getZ (i := k) (by omega)))) ?_
   refine .s [33, 37] rfl rfl rfl (.o rfl (.eq (.call (zint_Floor (by rw [val_words]; omega) (by rw [val_words]; omega) (by rw [zv_nz]; exact hkpos)) (.cons (.t rfl) (.cons (.t rfl) .nil))) ((show _ = isTup [isZ (cf r.2 k / cf rk.2 k), isZ (cf r.2 k % cf rk.2 k), isB true] from by simp only [zv_nz, zv_nf])))) ?_
   refine .s [38] rfl rfl rfl (.o rfl (.mv (.t rfl))) ?_
   refine .s [23] rfl rfl rfl (.o rfl (.ext (.t rfl) rfl)) ?_
   refine .s [23] rfl rfl rfl (.o rfl (.ext (.t rfl) rfl)) ?_
   refine .s [23] rfl rfl rfl (.o rfl (.ext (.t rfl) rfl)) ?_
   refine .als (n1 := 21) (ds := [5, 6]) (zs := [[isB false, SlM isU []], [isB false, SlM isU []]]) rfl (.cons rfl rfl zero30 (fun _ _ => ⟨rfl, nilM _ _, trivial⟩) (.cons rfl rfl zero30 (fun _ _ => ⟨rfl, nilM _ _, trivial⟩) .nil)) (.cons_cons _ (List.Sublist.refl _)) (Cs := [_, _]) rfl ?_
   refine .new [39] 0 (Ss' := [_, _]) (Cs' := [cellM [_, _], _]) rfl (by kernel_rfl) (by kernel_rfl) rfl rfl rfl (by kernel_rfl) rfl (.t rfl) ty30 rfl rfl rfl rfl ?_
   refine .new [40] 1 (Ss' := [_, _]) (Cs' := [_, cellM [_, _]]) rfl (by kernel_rfl) (by kernel_rfl) rfl rfl rfl (by kernel_rfl) rfl (.t rfl) ty30 rfl rfl rfl rfl ?_
   refine .fin (n := 23) mixed rfl (by kernel_rfl) (by kernel_rfl) (by kernel_rfl) (fun bs hbs => ?_)
   obtain ⟨b1, b2, rfl⟩ := len2 hbs
   refine .memEq (M' := (_ :: _ :: _ :: _)) rfl ?_
   refine .cv (Cv.wk (.k 0 rfl (.k 12 rfl (.k 13 rfl (.k 14 rfl (.k 15 rfl (.k 16 rfl (.k 17 rfl (.k 18 rfl (.k 2 rfl (.k 3 rfl (.k 19 rfl (.k 20 rfl (.k 21 rfl (.k 22 rfl (.k 4 rfl (.k 24 rfl (.k 25 rfl (.k 26 rfl (.k 27 rfl (.k 28 rfl (.k 29 rfl (.k 30 rfl (.k 31 rfl (.k 32 rfl (.k 33 rfl (.k 34 rfl (.k 35 rfl (.k 36 rfl (.k 37 rfl (.k 38 rfl (.k 23 rfl (.k 39 rfl (.k 40 rfl (.k 41 rfl (.cons (t := 5) (Has.op rfl) (.cons (t := 6) (Has.op rfl) .nil))))))))))))))))))))))))))))))))))))) ?_
   refine st (.as (.t rfl)) rfl ?_
   refine nl (.thn (k13 _ _ ?_))
   refine .seq fun _ k14 => .region (st (.mv (.t rfl)) rfl ?_)
   refine st (.len sl22 (.t rfl)) rfl (st (.mv (Has.cI 0 rfl)) rfl ?_)
   refine nl (.thn (k14 _ _ ?_))
   refine .block ?_
   refine .loopF [0, 12, 13, 14, 15, 16, 17, 18, 2, 3, 19, 20, 21, 22, 4, 24, 25, 26, 27, 28, 29, 30, 31, 32, 33, 34, 35, 36, 37, 38, 23, 39, 40, 41, 5, 6, 42, 43] (fun (z : { j : Nat // j ≤ n }) => match z with | ⟨j, hj⟩ => [(44, isI (j : Int))]) (fun M => fun (z : { j : Nat // j ≤ n }) => match z with | ⟨j, hj⟩ => (zM b1 (cf r.2 k / cf rk.2 k) :: zM b2 (cf r.2 k % cf rk.2 k) :: grM rowV gt rs2 :: (rs2.set i (r.1, mixZ (mx2 1 r.2 (-(cf r.2 k / cf rk.2 k)) rk.2) r.2 j)).map rowM)) (fun (z : { j : Nat // j ≤ n }) => match z with | ⟨j, hj⟩ => n - j) (⟨0, Nat.zero_le _⟩) (Cv.mem (.cons (t := 44) (Has.t' rfl ?_) (.k 0 rfl (.k 12 rfl (.k 13 rfl (.k 14 rfl (.k 15 rfl (.k 16 rfl (.k 17 rfl (.k 18 rfl (.k 2 rfl (.k 3 rfl (.k 19 rfl (.k 20 rfl (.k 21 rfl (.k 22 rfl (.k 4 rfl (.k 24 rfl (.k 25 rfl (.k 26 rfl (.k 27 rfl (.k 28 rfl (.k 29 rfl (.k 30 rfl (.k 31 rfl (.k 32 rfl (.k 33 rfl (.k 34 rfl (.k 35 rfl (.k 36 rfl (.k 37 rfl (.k 38 rfl (.k 23 rfl (.k 39 rfl (.k 40 rfl (.k 41 rfl (.k 5 rfl (.k 6 rfl (.k 42 rfl (.k 43 rfl .nil))))))))))))))))))))))))))))))))))))))) ?_) ?_
   ·rfl
   ·exact mixZ_start hr
   rintro ⟨j, hj⟩ K15 hK15
   refine .cv (Cv.wk (.k 44 rfl (.k 0 rfl (.k 12 rfl (.k 13 rfl (.k 14 rfl (.k 15 rfl (.k 16 rfl (.k 17 rfl (.k 18 rfl (.k 2 rfl (.k 3 rfl (.k 19 rfl (.k 20 rfl (.k 21 rfl (.k 22 rfl (.k 4 rfl (.k 24 rfl (.k 25 rfl (.k 26 rfl (.k 27 rfl (.k 28 rfl (.k 29 rfl (.k 30 rfl (.k 31 rfl (.k 32 rfl (.k 33 rfl (.k 34 rfl (.k 35 rfl (.k 36 rfl (.k 37 rfl (.k 38 rfl (.k 23 rfl (.k 39 rfl (.k 40 rfl (.k 41 rfl (.k 5 rfl (.k 6 rfl (.k 42 rfl (.k 43 rfl .nil)))))))))))))))))))))))))))))))))))))))) ?_
   refine .memEq (M' := (zM b1 (cf r.2 k / cf rk.2 k) :: zM b2 (cf r.2 k % cf rk.2 k) :: grM rowV gt rs2 :: (rs2.set i (r.1, mixZ (mx2 1 r.2 (-(cf r.2 k / cf rk.2 k)) rk.2) r.2 j)).map rowM)) rfl ?_
   have hset : (rs2.set i (r.1, mixZ (mx2 1 r.2 (-(cf r.2 k / cf rk.2 k)) rk.2) r.2 j))[i]? = some (r.1, mixZ (mx2 1 r.2 (-(cf r.2 k / cf rk.2 k)) rk.2) r.2 j) := List.getElem?_set_self (by omega)
   have hsetk : (rs2.set i (r.1, mixZ (mx2 1 r.2 (-(cf r.2 k / cf rk.2 k)) rk.2) r.2 j))[k]? = some rk := (List.getElem?_set_ne (by omega)).trans hrk2
   refine .seq fun _ k16 => .region (st (.ltI (.t rfl) (.t rfl)) rfl ?_)
   refine nl (.thn (k16 _ _ ?_))
   refine .seq fun _ k17 => ?_
   refine .cond (.t rfl) (fun hc3 => ?_) (fun hc3 => ?_)
   ·have hc3 := BP.t hc3
    have hrj := hrB j
    have hkj := hrkB j
    have hmj := nz_mul (cf r.2 k / cf rk.2 k) (cf rk.2 j)
    refine .skip ?_
    refine .thn (k17 _ _ ?_)
    refine .seq fun _ k18 => ?_
    refine .block ?_
    refine .seq fun _ k19 => .region (st (.mv (.t rfl)) rfl ?_)
    refine st (.as (.t rfl)) rfl ?_
    refine nl (.thn (k19 _ _ ?_))
    refine .dry mixed ?_
    refine .tk 0 rfl rfl rfl rfl (OKY.mv (.t rfl)) ?_
    refine .tk 4 rfl rfl rfl rfl (OKY.mv (.t rfl)) ?_
    refine .tk 7 rfl rfl rfl rfl (OKY.mv (.t rfl)) ?_
    refine .tk 8 rfl rfl rfl rfl (OKY.mv (.t rfl)) ?_
    refine .tk 12 rfl rfl rfl rfl (OKY.mv (.t rfl)) ?_
    refine .tk 15 rfl rfl rfl rfl (OKY.mv (.t rfl)) ?_
    refine .tk 19 rfl rfl rfl rfl (OKY.mv (.t rfl)) ?_
    refine .tk 20 rfl rfl rfl rfl (OKY.mv (.t rfl)) ?_
    refine .go [] ?_
    refine .s 1 [] rfl rfl rfl (.o rfl (.nilcP (.t rfl))) ?_
    refine .s 2 [48] rfl rfl rfl (.o rfl (.fieldAddrP (.t rfl) fld61_0 ty59 (Ss' := [_, _, _]) rfl)) ?_
    refine .s 3 [49] rfl rfl rfl (.o rfl (.loadP1 (.t rfl) ty59)) ?_
    refine .s 5 [50] rfl rfl rfl (.o rfl (.ixGr sl59 ty22 (.t rfl) (.t rfl) ⟨by omega, by omega⟩)) ?_
    refine .s 6 [52] rfl rfl rfl (.o rfl (.loadGM (.t rfl) (i := 2) rfl ty22 hr)) ?_
    refine .s 9 [] rfl rfl rfl (.o rfl (.nilcP (.t rfl))) ?_
    refine .s 10 [56] rfl rfl rfl (.o rfl (.fieldAddrP (.t rfl) fld61_0 ty59 (Ss' := [_, _, _]) rfl)) ?_
    refine .s 11 [57] rfl rfl rfl (.o rfl (.loadP1 (.t rfl) ty59)) ?_
    refine .s 13 [58] rfl rfl rfl (.o rfl (.ixGr sl59 ty22 (.t rfl) (.t rfl) ⟨by omega, by omega⟩)) ?_
    refine .s 14 [60] rfl rfl rfl (.o rfl (.loadGM (.t rfl) (i := 2) rfl ty22 hr)) ?_
    refine .s 16 [61] rfl rfl rfl (.o rfl (.ixGr sl22 ty30 (.t rfl) (.t rfl) ⟨by omega, by omega⟩)) ?_
    refine .s 17 [63] rfl rfl rfl (.o rfl (.loadGK zc_len (.t rfl) (i := 3 + i) (wkAt (pre := [_, _, _]) (r := (r.1, mixZ (mx2 1 r.2 (-(cf r.2 k / cf rk.2 k)) rk.2) r.2 j)) hset) ty30 (show ((mixZ (mx2 1 r.2 (-(cf r.2 k / cf rk.2 k)) rk.2) r.2 j).map nz)[j]? = some (nz (cf r.2 j)) from by rw [List.getElem?_map, mixZ_at (mx2_len _ _ _ _) (by omega)]; rfl))) ?_
    refine .s 18 [] rfl rfl rfl (.o rfl (.load (.t rfl) (i := 0) rfl ty30 rfl (Ss' := [_, _]) rfl)) ?_
    refine .s 21 [] rfl rfl rfl (.o rfl (.ixGr sl22 ty30 (.t rfl) (.t rfl) ⟨by omega, by omega⟩)) ?_
    refine .s 22 [68] rfl rfl rfl (.o rfl (.loadGK zc_len (.t rfl) (i := 3 + k) (wkAt (pre := [_, _, _]) hsetk) ty30 (getZ (i := j) (by omega)))) ?_
    refine .s 23 [65, 69] rfl rfl rfl (.o rfl (.eq (.call (zint_Mul (by rw [val_words]; omega) (by rw [val_words]; omega)) (.cons (.t rfl) (.cons (.t rfl) .nil))) ((show _ = isZ ((cf r.2 k / cf rk.2 k) * cf rk.2 j) from isZ_eq (by simp only [zv_nz, zv_nf]))))) ?_
    refine .s 24 [64, 70] rfl rfl rfl (.o rfl (.eq (.call (zint_Sub (by rw [val_words]; omega) (by rw [val_words]; omega)) (.cons (.t rfl) (.cons (.t rfl) .nil))) ((show isZ _ = Flat (zc (nz (1 * cf r.2 j + -(cf r.2 k / cf rk.2 k) * cf rk.2 j))) from isZ_eq (by simp only [zv_nz, zv_nf]; rw [Int.one_mul, Int.neg_mul]; omega))))) ?_
    refine .fin [25, 26] (by kernel_rfl) (by kernel_rfl) (fun _ _ _ _ _ h => h) (by kernel_rfl) (by kernel_rfl) (by kernel_rfl) (by kernel_rfl) (by kernel_rfl) (by kernel_rfl) (by kernel_rfl) (by kernel_rfl) (by kernel_rfl) ?_
    refine .cv (Cv.wk (.k 0 rfl (.k 12 rfl (.k 13 rfl (.k 14 rfl (.k 15 rfl (.k 16 rfl (.k 17 rfl (.k 18 rfl (.k 2 rfl (.k 3 rfl (.k 19 rfl (.k 20 rfl (.k 21 rfl (.k 22 rfl (.k 4 rfl (.k 24 rfl (.k 25 rfl (.k 26 rfl (.k 27 rfl (.k 28 rfl (.k 29 rfl (.k 30 rfl (.k 31 rfl (.k 32 rfl (.k 33 rfl (.k 34 rfl (.k 35 rfl (.k 36 rfl (.k 37 rfl (.k 38 rfl (.k 23 rfl (.k 39 rfl (.k 40 rfl (.k 41 rfl (.k 5 rfl (.k 6 rfl (.k 42 rfl (.k 43 rfl (.k 44 rfl (.k 45 rfl (.k 46 rfl (.k 8 rfl (.k 47 rfl (.k 51 rfl (.k 54 rfl (.k 55 rfl (.k 59 rfl (.k 62 rfl (.k 66 rfl (.k 67 rfl (.k 48 rfl (.k 49 rfl (.k 50 rfl (.k 52 rfl (.k 53 rfl (.k 56 rfl (.k 57 rfl (.k 58 rfl (.k 60 rfl (.k 61 rfl (.k 63 rfl (.k 64 rfl (.k 65 rfl (.k 68 rfl (.k 69 rfl (.k 70 rfl (.k 71 rfl .nil)))))))))))))))))))))))))))))))))))))))))))))))))))))))))))))))))))) ?_
    refine st (.ixGr sl22 ty30 (.t rfl) (.t rfl) ⟨by omega, by omega⟩) rfl ?_
    refine .storeGK (z := nz (1 * cf r.2 j + -(cf r.2 k / cf rk.2 k) * cf rk.2 j)) zc_len (.t rfl) (.t rfl) (i := 3 + i) (wkAt (pre := [_, _, _]) (r := (r.1, mixZ (mx2 1 r.2 (-(cf r.2 k / cf rk.2 k)) rk.2) r.2 j)) hset) ty30 (by rw [List.length_map, mixZ_len (mx2_len _ _ _ _) (by omega)]; omega) (M' := (_ :: _ :: _ :: (rs2.set i (r.1, mixZ (mx2 1 r.2 (-(cf r.2 k / cf rk.2 k)) rk.2) r.2 (j + 1))).map rowM)) (wkStore (pre := [_, _, _]) (X := (r.1, mixZ (mx2 1 r.2 (-(cf r.2 k / cf rk.2 k)) rk.2) r.2 j)) hset (mixZ_set (mx2_len _ _ _ _) (by omega) (mx2_get (by omega)))) ?_
    refine nl ?_
    refine .bln ?_
    refine .thn (k18 _ _ ?_)
    refine .region (st (.addI (.t rfl) (Has.cI 1 rfl) (by first | omega | assumption) (by first | omega | assumption)) rfl ?_)
    refine st (.mv (.t rfl)) rfl ?_
    refine nl ?_
    refine .thn ?_
    refine hK15 (⟨j + 1, by omega⟩) _ _ ?_ (Cv.mem (.cons (t := 44) (Has.t' rfl ?_) (.k 0 rfl (.k 12 rfl (.k 13 rfl (.k 14 rfl (.k 15 rfl (.k 16 rfl (.k 17 rfl (.k 18 rfl (.k 2 rfl (.k 3 rfl (.k 19 rfl (.k 20 rfl (.k 21 rfl (.k 22 rfl (.k 4 rfl (.k 24 rfl (.k 25 rfl (.k 26 rfl (.k 27 rfl (.k 28 rfl (.k 29 rfl (.k 30 rfl (.k 31 rfl (.k 32 rfl (.k 33 rfl (.k 34 rfl (.k 35 rfl (.k 36 rfl (.k 37 rfl (.k 38 rfl (.k 23 rfl (.k 39 rfl (.k 40 rfl (.k 41 rfl (.k 5 rfl (.k 6 rfl (.k 42 rfl (.k 43 rfl .nil))))))))))))))))))))))))))))))))))))))) ?_)
    ·show n - (j + 1) < n - j; omega
    ·exact isI_eq (by omega)
    ·rfl
   ·have hc3 := BP.f hc3
    refine .exit ?_
    refine .the ?_
    refine .the ?_
    refine .blh ?_
    refine .bln ?_
    refine .thn (k11 _ _ ?_)
    refine .region (st (.addI (.t rfl) (Has.cI 1 rfl) (by first | omega | assumption) (by first | omega | assumption)) rfl ?_)
    refine st (.mv (.t rfl)) rfl ?_
    refine nl ?_
    refine .thn ?_
    have hjn : j = r.2.length := by omega
    refine hK8 (⟨(i + 1, rs2.set i (r.1, (mx2 1 r.2 (-(cf r.2 k / cf rk.2 k)) rk.2))), by show i + 1 ≤ k; omega, by show (rs2.set i _).map Prod.snd = rd _ _ _ _; rw [List.map_set, hrs2]; exact (rd_go (by rw [← hrs2, List.getElem?_map, hr]; rfl) (by rw [← hrs2, List.getElem?_map, hrk2]; rfl)).symm, fun j hj => by show (rs2.set i _)[j]? = _; rw [List.getElem?_set_ne (by change i + 1 ≤ j at hj; omega)]; exact hfar j (by change i + 1 ≤ j at hj; omega)⟩) _ _ ?_ (Cv.trans (Cv.drop ((.cons _ (.cons _ (.cons_cons _ (List.Sublist.refl _)))))) (Cv.mem (.cons (t := 20) (Has.t' rfl ?_) (.k 0 rfl (.k 12 rfl (.k 13 rfl (.k 14 rfl (.k 15 rfl (.k 16 rfl (.k 17 rfl (.k 18 rfl (.k 2 rfl (.k 3 rfl (.k 19 rfl .nil)))))))))))) ?_))
    ·show k - (i + 1) < k - i; omega
    ·exact isI_eq (by omega)
    ·exact tri_round hr (mx2_len _ _ _ _) hjn
  ·have hc2 := BP.f hc2
   refine .exit ?_
   refine .the ?_
   refine .the ?_
   refine .blh ?_
   refine .bln ?_
   refine .thn (k5 _ _ ?_)
   refine .region (st (.addI (.t rfl) (Has.cI 1 rfl) (by first | omega | assumption) (by first | omega | assumption)) rfl ?_)
   refine st (.mv (.t rfl)) rfl ?_
   refine nl ?_
   refine .thn ?_
   have hik : i = k := by omega
   refine hK2 (⟨(k + 1, rs2), by show k + 1 ≤ n; omega, by show rs2.map Prod.snd = rds _ _ _ _; rw [hrs2, hik]⟩) _ _ ?_ (Cv.mem (.cons (t := 14) (Has.t' rfl ?_) (.k 0 rfl (.k 12 rfl (.k 13 rfl .nil)))) ?_)
   ·show n - (k + 1) < n - k; omega
   ·exact isI_eq (by omega)
   ·rfl
 ·have hc1 := BP.f hc1
  refine .exit ?_
  refine .the ?_
  refine .the ?_
  refine .blh ?_
  refine rtX0 (.inr rfl) Try.results64 rfl ?_
  exact ⟨rs1, rfl, rfl, by rw [hrs1, show k = n by omega]⟩
end Go.Proofs.Ythkdmhaafanjlaa
namespace Go.Proofs.Ythkdmhaafanjlaa
open Go.En Go.RowKit
set_option maxRecDepth 10000
set_option maxHeartbeats 4000000
open Go.Nt
open Go.Pz
open Go.Mz
theorem bareiss_begun {R C K : Nat} {xs : List (Bool × List Nat)} (hx : Bd (vals xs) K) (hK : K ≤ 4000000000) (hR : R ≤ 64) (hC : C ≤ 64) (hl : xs.length = R * C) : CtrX Try.prog 98 [isM (R : Int) (C : Int) xs] ([]) (fun S M => ∃ bw gt rs, S = isPtr bw 0 ∧ M = wkM bw Gr.nil gt rs C [] 1 false ∧ rs.map Prod.snd = rowsOf R C (vals xs)) := by
 refine CtrX.intro Try.func98 rfl (by kernel_rfl) Try.ntmps98 rfl fun w0 F0 => ?_
 refine .cv (Cv.wk (.k 0 rfl .nil)) ?_
 refine .seq fun _ k1 => .region (.box (.t rfl) rfl fun b1 => ?_)
 refine st (.as Has.cP) rfl ?_
 refine nl (.thn (k1 _ _ ?_))
 refine .seq fun _ k2 => ?_
 refine .dr ?_
 refine .s [] rfl rfl rfl (.o rfl (.fieldAddr (.t rfl) fld24_1 ty3)) ?_
 refine .s [7] rfl rfl rfl (.o rfl (.load1 (.t rfl) (i := 0) rfl ty3 rfl)) ?_
 refine .s [] rfl rfl rfl (.o rfl (.call (zint_Of) (.cons (Has.cI 1 rfl) .nil))) ?_
 refine .fin (n := 3) mixed (by kernel_rfl) (by kernel_rfl) (by kernel_rfl) ?_
 refine .cv (Cv.wk (.k 1 rfl (.k 2 rfl (.k 8 rfl (.k 9 rfl .nil))))) ?_
 refine st (.build [nilS, isI 0, nilS, isB false, SlM isU [], isB false] pl102 zero102 (fun _ _ => ⟨rfl, ⟨rfl, by decide, by decide⟩, rfl, rfl, nilM _ _, rfl, trivial⟩) (.cons (.t rfl) rfl rfl rfl (.cons (.t rfl) rfl rfl rfl .nil)) (Z'' := [_, _, _, _, _, _]) rfl) rfl ?_
 refine .box (.t rfl) rfl fun b2 => ?_
 refine st (.as (.t rfl)) rfl ?_
 refine nl (.thn (k2 _ _ ?_))
 refine .seq fun _ k3 => ?_
 refine .seq fun _ k4 => ?_
 refine .cv (Cv.growF (Row) (i := 0) (o := 0) rfl rfl rfl) ?_
 refine .memEq (M' := [grM rowV Gr.nil [], _, _]) rfl ?_
 refine .region (st (.fieldAddr (.t rfl) fld24_0 ty3) rfl ?_)
 refine st (.load1 (.t rfl) (i := 2) rfl ty3 rfl) rfl (st (.mv (Has.cI 0 rfl)) rfl ?_)
 refine nl (.thn (k4 _ _ ?_))
 refine .cv (Cv.wk (.k 1 rfl (.k 2 rfl (.k 3 rfl (.k 13 rfl (.k 14 rfl .nil)))))) ?_
 refine .block ?_
 refine .memEq (M' := (_ :: _ :: _ :: ([] : List Row).map rowM)) rfl ?_
 refine .loopF [1, 2, 3, 13] (fun (z : { z : Nat × Gr Row × List Row // z.1 ≤ R ∧ z.2.2.map Prod.snd = rowsOf z.1 C (vals xs) }) => match z with | ⟨(i, gt, rs), hI⟩ => [(14, isI (i : Int))]) (fun M => fun (z : { z : Nat × Gr Row × List Row // z.1 ≤ R ∧ z.2.2.map Prod.snd = rowsOf z.1 C (vals xs) }) => match z with | ⟨(i, gt, rs), hI⟩ => (grM rowV gt rs :: (some b2, cellM [isGr gt rs.length, isI (C : Int), nilS, isB (decide ((1 : Int) < 0)), SlM isU (words (1 : Int).natAbs), isB false]) :: (some b1, cellM [isI (R : Int), isI (C : Int), SlK 2 zc xs]) :: rs.map rowM)) (fun (z : { z : Nat × Gr Row × List Row // z.1 ≤ R ∧ z.2.2.map Prod.snd = rowsOf z.1 C (vals xs) }) => match z with | ⟨(i, gt, rs), hI⟩ => R - i) (⟨(0, Gr.nil, []), Nat.zero_le _, rfl⟩) (Cv.mem (.cons (t := 14) (Has.t' rfl ?_) (.k 1 rfl (.k 2 rfl (.k 3 rfl (.k 13 rfl .nil))))) ?_) ?_
 ·rfl
 ·rfl
 rintro ⟨⟨i, gt, rs⟩, hI⟩ K5 hK5
 refine .cv (Cv.wk (.k 14 rfl (.k 1 rfl (.k 2 rfl (.k 3 rfl (.k 13 rfl .nil)))))) ?_
 refine .memEq (M' := (grM rowV gt rs :: (some b2, cellM [isGr gt rs.length, isI (C : Int), nilS, isB (decide ((1 : Int) < 0)), SlM isU (words (1 : Int).natAbs), isB false]) :: (some b1, cellM [isI (R : Int), isI (C : Int), SlK 2 zc xs]) :: rs.map rowM)) rfl ?_
 simp only [] at hI
 obtain ⟨hi, hrs⟩ := hI
 have hrl : rs.length = i := by have := congrArg List.length hrs; rwa [List.length_map, rowsOf_len] at this
 refine .seq fun _ k6 => .region (st (.ltI (.t rfl) (.t rfl)) rfl ?_)
 refine nl (.thn (k6 _ _ ?_))
 refine .seq fun _ k7 => ?_
 refine .cond (.t rfl) (fun hc1 => ?_) (fun hc1 => ?_)
 ·have hc1 := BP.t hc1
  refine .skip ?_
  refine .thn (k7 _ _ ?_)
  refine .seq fun _ k8 => ?_
  refine .block ?_
  refine .seq fun _ k9 => .region (st (.mv (.t rfl)) rfl ?_)
  refine st (.as (.t rfl)) rfl ?_
  refine nl (.thn (k9 _ _ ?_))
  refine .seq fun _ k10 => .region (.cv (Cv.grow0K (α := Bool × List Nat) zc) ?_)
  refine st (.as (Has.cGr (α := Bool × List Nat))) rfl ?_
  refine nl (.thn (k10 _ _ ?_))
  refine .seq fun _ k11 => ?_
  refine .seq fun _ k12 => .region (st (.fieldAddr (.t rfl) fld24_1 ty3) rfl ?_)
  refine st (.load1 (.t rfl) (i := 3) rfl ty3 rfl) rfl (st (.mv (Has.cI 0 rfl)) rfl ?_)
  refine nl (.thn (k12 _ _ ?_))
  refine .block ?_
  refine .loopF [1, 2, 3, 13, 14, 15, 16, 4, 17, 18] (fun (z : { z : Nat × Gr (Bool × List Nat) // z.1 ≤ C }) => match z with | ⟨(k, g), hK2⟩ => [(19, isI (k : Int)), (5, isGr g (((List.range k).map fun k => cf (vals xs) (i * C + k)).map nz).length)]) (fun M => fun (z : { z : Nat × Gr (Bool × List Nat) // z.1 ≤ C }) => match z with | ⟨(k, g), hK2⟩ => (grMK zc g (((List.range k).map fun k => cf (vals xs) (i * C + k)).map nz) :: grM rowV gt rs :: (some b2, cellM [isGr gt rs.length, isI (C : Int), nilS, isB (decide ((1 : Int) < 0)), SlM isU (words (1 : Int).natAbs), isB false]) :: (some b1, cellM [isI (R : Int), isI (C : Int), SlK 2 zc xs]) :: rs.map rowM)) (fun (z : { z : Nat × Gr (Bool × List Nat) // z.1 ≤ C }) => match z with | ⟨(k, g), hK2⟩ => C - k) (⟨(0, Gr.nil), Nat.zero_le _⟩) (Cv.mem (.cons (t := 19) (Has.t' rfl ?_) (.cons (t := 5) (Has.t' rfl ?_) (.k 1 rfl (.k 2 rfl (.k 3 rfl (.k 13 rfl (.k 14 rfl (.k 15 rfl (.k 16 rfl (.k 4 rfl (.k 17 rfl (.k 18 rfl .nil)))))))))))) ?_) ?_
  ·rfl
  ·rfl
  ·rfl
  rintro ⟨⟨k, g⟩, hK2⟩ K13 hK13
  refine .cv (Cv.wk (.k 19 rfl (.k 5 rfl (.k 1 rfl (.k 2 rfl (.k 3 rfl (.k 13 rfl (.k 14 rfl (.k 15 rfl (.k 16 rfl (.k 4 rfl (.k 17 rfl (.k 18 rfl .nil))))))))))))) ?_
  refine .memEq (M' := (grMK zc g (((List.range k).map fun k => cf (vals xs) (i * C + k)).map nz) :: grM rowV gt rs :: (some b2, cellM [isGr gt rs.length, isI (C : Int), nilS, isB (decide ((1 : Int) < 0)), SlM isU (words (1 : Int).natAbs), isB false]) :: (some b1, cellM [isI (R : Int), isI (C : Int), SlK 2 zc xs]) :: rs.map rowM)) rfl ?_
  simp only [] at hK2
  refine .seq fun _ k14 => .region (st (.ltI (.t rfl) (.t rfl)) rfl ?_)
  refine nl (.thn (k14 _ _ ?_))
  refine .seq fun _ k15 => ?_
  refine .cond (.t rfl) (fun hc2 => ?_) (fun hc2 => ?_)
  ·have hc2 := BP.t hc2
   refine .skip ?_
   refine .thn (k15 _ _ ?_)
   refine .seq fun _ k16 => ?_
   refine .block ?_
   refine .seq fun _ k17 => .region (st (.mv (.t rfl)) rfl ?_)
   refine st (.as (.t rfl)) rfl ?_
   refine nl (.thn (k17 _ _ ?_))
   refine .region (st (.mv (.t rfl)) rfl ?_)
   refine st (.load (.t rfl) (i := 3) rfl ty24 rfl (Ss' := [_, _, _]) rfl) rfl ?_
   refine st (.mv (.t rfl)) rfl (st (.mv (.t rfl)) rfl ?_)
   refine st (.call (zmat_At hx hK hR hC hl (i := i) (k := k) (by omega) (by omega)) (.cons (.t rfl) (.cons (.t rfl) (.cons (.t rfl) .nil)))) rfl ?_
   refine st (.buildS [isB false, SlM isU []] sl22 ty30 zero30 (fun _ _ => ⟨rfl, nilM _ _, trivial⟩) rfl rfl (.cons (.t rfl) rfl rfl rfl .nil) rfl (S := SlK 2 zc [nz (cf (vals xs) (i * C + k))]) rfl) rfl ?_
   refine .appendGK (fk := zc) (u := (false, [])) zc_len (by decide) (fun _ => inferInstance) sl22 ty30 zero30 (fun _ _ => ⟨rfl, nilM _ _, trivial⟩) by30 (.t rfl) (i := 0) rfl (.t rfl) (by rw [List.length_map, List.length_map, List.length_range]; show k + 1 ≤ _; omega) (by simp) rfl fun gr1 => ?_
   refine .memEq (M' := (grMK _ _ _ :: _ :: _ :: _ :: _)) rfl ?_
   refine st (.as (.t rfl)) rfl ?_
   refine nl ?_
   refine .bln ?_
   refine .thn (k16 _ _ ?_)
   refine .region (st (.addI (.t rfl) (Has.cI 1 rfl) (by first | omega | assumption) (by first | omega | assumption)) rfl ?_)
   refine st (.mv (.t rfl)) rfl ?_
   refine nl ?_
   refine .thn ?_
   refine hK13 (⟨(k + 1, gr1), by show k + 1 ≤ C; omega⟩) _ _ ?_ (Cv.mem (.cons (t := 19) (Has.t' rfl ?_) (.cons (t := 5) (Has.t' rfl ?_) (.k 1 rfl (.k 2 rfl (.k 3 rfl (.k 13 rfl (.k 14 rfl (.k 15 rfl (.k 16 rfl (.k 4 rfl (.k 17 rfl (.k 18 rfl .nil)))))))))))) ?_)
   ·show C - (k + 1) < C - k; omega
   ·exact isI_eq (by omega)
   ·exact isGr_eq (by rw [range_succ_nz, List.length_append])
   ·exact grMK_eq (range_succ_nz _ _).symm
  ·have hc2 := BP.f hc2
   refine .exit ?_
   refine .the ?_
   refine .the ?_
   refine .blh ?_
   refine .thn (k11 _ _ ?_)
   refine .region (st (.mv (.t rfl)) rfl ?_)
   refine st (.mv (.t rfl)) rfl (st (.nilc (.t rfl)) rfl ?_)
   refine st (.fieldAddr (.t rfl) fld102_0 ty59) rfl (st (.load1 (.t rfl) (i := 2) rfl ty59 rfl) rfl ?_)
   refine st (.mv (.t rfl)) rfl (st (.buildS [nilS] sl59 ty22 zero22 (fun _ _ => ⟨rfl, trivial⟩) rfl rfl (.cons (.t rfl) rfl rfl rfl .nil) rfl (S := SlM rowV [(g, ((List.range k).map fun k => cf (vals xs) (i * C + k)))]) rfl) rfl ?_)
   refine .appendG (f := rowV) (u := (Gr.nil, [])) sl59 ty22 zero22 (fun _ _ => ⟨gr0, trivial⟩) (fun _ => inferInstance) by22 (.t rfl) (i := 1) rfl (.t rfl) (by rw [hrl]; show i + 1 ≤ _; omega) (by simp) rfl fun gr1 => ?_
   refine .memEq (M' := (_ :: grM _ _ _ :: _ :: _ :: _)) rfl ?_
   refine st (.nilc (.t rfl)) rfl ?_
   refine st (.fieldAddr (.t rfl) fld102_0 ty59) rfl ?_
   refine .store (.t rfl) (.t rfl) (i := 2) rfl ty59 rfl rfl (Ss' := [_, _, _, _, _, _]) rfl (M' := (_ :: _ :: (some _, cellM [_, _, _, _, _, _]) :: _ :: _)) rfl ?_
   refine nl ?_
   refine .bln ?_
   refine .thn (k8 _ _ ?_)
   refine .region (st (.addI (.t rfl) (Has.cI 1 rfl) (by first | omega | assumption) (by first | omega | assumption)) rfl ?_)
   refine st (.mv (.t rfl)) rfl ?_
   refine nl ?_
   refine .thn ?_
   have hkC : C = k := by omega
   subst hkC
   refine hK5 (⟨(i + 1, gr1, rs ++ [(g, ((List.range C).map fun k => cf (vals xs) (i * C + k)))]), by show i + 1 ≤ R; omega, by show (rs ++ [(g, ((List.range C).map fun k => cf (vals xs) (i * C + k)))]).map Prod.snd = _; rw [List.map_append, hrs, rowsOf_succ]; rfl⟩) _ _ ?_ (Cv.trans (Cv.perm perm_end) (Cv.mem (.cons (t := 14) (Has.t' rfl ?_) (.k 1 rfl (.k 2 rfl (.k 3 rfl (.k 13 rfl .nil))))) ?_))
   ·show R - (i + 1) < R - i; omega
   ·exact isI_eq (by omega)
   ·show _ = grM rowV gr1 (rs ++ [_]) :: (some b2, cellM [isGr gr1 (rs ++ [_]).length, _, _, _, _, _]) :: _ :: (rs ++ [_]).map rowM; rw [List.map_append, List.length_append]; rfl
 ·have hc1 := BP.f hc1
  refine .exit ?_
  refine .the ?_
  refine .the ?_
  refine .blh ?_
  refine .thn (k3 _ _ ?_)
  refine .seq fun _ k18 => ?_
  refine .cv (Cv.growF (Int) (i := 1) (o := 2) rfl rfl rfl) ?_
  refine .memEq (M' := (grM isI Gr.nil [] :: _ :: _ :: _ :: _)) rfl ?_
  refine .cv (Cv.drop ((.cons_cons _ (.cons_cons _ (.cons_cons _ (.cons _ (List.Sublist.refl _))))))) ?_
  refine .cv (Cv.wk (.k 2 rfl (.k 3 rfl (.k 13 rfl (.k 14 rfl (.k 15 rfl .nil)))))) ?_
  refine .cv (Cv.perm perm_rot) ?_
  refine .region (st (.mv (.t rfl)) rfl ?_)
  refine st (.as (.t rfl)) rfl ?_
  refine nl (.thn (k18 _ _ ?_))
  refine .cv (Cv.wk (.k 2 rfl .nil)) ?_
  refine .ret ?_
  refine rtX1 (.inl rfl) Try.results98 rfl (.tmp (.t rfl) .nil) ?_
  exact ⟨b2, gt, rs, rfl, rfl, by obtain rfl : i = R := (by omega); exact hrs⟩
theorem bareiss_find {bw C : Nat} {gp : Gr Int} {gt : Gr Row} {rs : List Row} {ps : List Nat} {last : Int} {odd : Bool} {K : Nat} (hrow : ∀ r ∈ rs, r.2.length = C) (hb : ∀ r ∈ rs, Bd r.2 K) (hC : C ≤ 64) (hR : rs.length ≤ 64) (hpl : ps.length ≤ 64) {col : Nat} (hcol : col < C) (hK : K ≤ 400000000) : CtrX Try.prog 113 [isPtr bw 0, isI (col : Int)] (wkM bw gp gt rs C ps last odd) (fun S M => ∃ rs' odd' ok, S = isB ok ∧ M = wkM bw gp gt rs' C ps last odd' ∧ FindR rs ps.length col odd rs' odd' ok) := by
 refine CtrX.intro Try.func113 rfl (by kernel_rfl) Try.ntmps113 rfl fun w0 F0 => ?_
 refine .cv (Cv.wk (.k 0 rfl (.k 1 rfl .nil))) ?_
 refine .fact (Has.rngI (Has.t (t := 1) rfl)) fun lt1 => ?_
 have hpv := pv_len ps
 refine .seq fun _ k1 => .region (st (.as (Has.cB false)) rfl ?_)
 refine nl (.thn (k1 _ _ ?_))
 refine .seq fun _ k2 => .region (st (.mv (.t rfl)) rfl ?_)
 refine st (.nilc (.t rfl)) rfl ?_
 refine st (.fieldAddr (.t rfl) fld102_2 ty63) rfl (st (.load1 (.t rfl) (i := 0) rfl ty63 rfl) rfl ?_)
 refine st (.eq (.len sl63 (.t rfl)) ((show isI _ = isI (ps.length : Int) from isI_eq (by omega)))) rfl ?_
 refine st (.eq (.as (.t rfl)) ((show isI _ = isI (ps.length : Int) from isI_eq (by omega)))) rfl ?_
 refine nl (.thn (k2 _ _ ?_))
 refine .cv (Cv.wk (.k 0 rfl (.k 1 rfl (.k 4 rfl (.k 5 rfl .nil))))) ?_
 refine .seq fun _ k3 => ?_
 refine .seq fun _ k4 => .region (st (.mv (.t rfl)) rfl ?_)
 refine st (.as (.t rfl)) rfl ?_
 refine nl (.thn (k4 _ _ ?_))
 refine .block ?_
 refine .loopF [0, 1, 5] (fun (z : { i : Nat // ps.length ≤ i ∧ (i ≤ rs.length ∨ i = ps.length) ∧ ∀ (j : Nat) (r : Row), ps.length ≤ j → j < i → rs[j]? = some r → cf r.2 col = 0 }) => match z with | ⟨i, hi⟩ => [(6, isI (i : Int))]) (fun M => fun (z : { i : Nat // ps.length ≤ i ∧ (i ≤ rs.length ∨ i = ps.length) ∧ ∀ (j : Nat) (r : Row), ps.length ≤ j → j < i → rs[j]? = some r → cf r.2 col = 0 }) => match z with | ⟨i, hi⟩ => M) (fun (z : { i : Nat // ps.length ≤ i ∧ (i ≤ rs.length ∨ i = ps.length) ∧ ∀ (j : Nat) (r : Row), ps.length ≤ j → j < i → rs[j]? = some r → cf r.2 col = 0 }) => match z with | ⟨i, hi⟩ => rs.length - i) (⟨ps.length, Nat.le_refl _, .inr rfl, fun j r h1 h2 => absurd h2 (by omega)⟩) (Cv.mem (.cons (t := 6) (Has.t' rfl ?_) (.k 0 rfl (.k 1 rfl (.k 5 rfl .nil)))) ?_) ?_
 ·exact isI_eq (by omega)
 ·rfl
 rintro ⟨i, hi, hi2, hz⟩ K5 hK5
 refine .cv (Cv.wk (.k 6 rfl (.k 0 rfl (.k 1 rfl (.k 5 rfl .nil))))) ?_
 refine .seq fun _ k6 => ?_
 refine .seq fun _ k7 => .region (st (.mv (.t rfl)) rfl ?_)
 refine st (.mv (.t rfl)) rfl (st (.nilc (.t rfl)) rfl ?_)
 refine st (.fieldAddr (.t rfl) fld102_0 ty59) rfl (st (.load1 (.t rfl) (i := 0) rfl ty59 rfl) rfl ?_)
 refine st (.len sl59 (.t rfl)) rfl (st (.ltI (.t rfl) (.t rfl)) rfl ?_)
 refine nl (.thn (k7 _ _ ?_))
 refine .cond (.t rfl) (fun hc1 => ?_) (fun hc1 => ?_)
 ·have hc1 := BP.t hc1
  obtain ⟨r, hr⟩ : ∃ r, rs[i]? = some r := ⟨_, List.getElem?_eq_getElem (by omega)⟩
  have hrC := hrow r (List.mem_of_getElem? hr)
  have hrB := hb r (List.mem_of_getElem? hr)
  have hrL : (r.2.map nz).length = C := by rw [List.length_map, hrC]
  refine .skip ?_
  refine .thn (k6 _ _ ?_)
  refine .seq fun _ k8 => ?_
  refine .block ?_
  refine .seq fun _ k9 => .region (st (.mv (.t rfl)) rfl ?_)
  refine st (.nilc (.t rfl)) rfl ?_
  refine st (.fieldAddr (.t rfl) fld102_0 ty59) rfl (st (.load1 (.t rfl) (i := 0) rfl ty59 rfl) rfl ?_)
  refine st (.mv (.t rfl)) rfl (st (.ixGr sl59 ty22 (.t rfl) (.t rfl) ⟨by omega, by omega⟩) rfl ?_)
  refine st (.loadGM (.t rfl) (i := 2) rfl ty22 hr) rfl ?_
  refine st (.mv (.t rfl)) rfl (st (.ixGr sl22 ty30 (.t rfl) (.t rfl) ⟨by omega, by omega⟩) rfl ?_)
  refine st (.loadGK zc_len (.t rfl) (i := 3 + i) (wkAt (pre := [_, _, _]) hr) ty30 (getZ (i := col) (by omega))) rfl ?_
  refine st (.eq (.call (zint_Sign (by rw [val_words]; have := hrB col; omega)) (.cons (.t rfl) .nil)) ((show isI _ = isI (sgn (cf r.2 col)) from isI_eq (by rw [zv_nz])))) rfl ?_
  refine st (.neI (.t rfl) (Has.cI 0 rfl)) rfl ?_
  refine nl (.thn (k9 _ _ ?_))
  refine .cond (.t rfl) (fun hc2 => ?_) (fun hc2 => ?_)
  ·have hc2 := BP.t hc2
   have he : cf r.2 col ≠ 0 := fun e => hc2 ((sgn_eq0 _).2 e)
   refine .seq fun _ k10 => ?_
   refine .seq fun _ k11 => .region (st (.mv (.t rfl)) rfl ?_)
   refine st (.mv (.t rfl)) rfl (st (.neI (.t rfl) (.t rfl)) rfl ?_)
   refine nl (.thn (k11 _ _ ?_))
   refine .cond (.t rfl) (fun hc3 => ?_) (fun hc3 => ?_)
   ·have hc3 := BP.t hc3
    obtain ⟨rt, hrt⟩ : ∃ rt, rs[ps.length]? = some rt := ⟨_, List.getElem?_eq_getElem (by omega)⟩
    have hne : i ≠ ps.length := fun e => hc3 (congrArg Nat.cast e)
    refine .seq fun _ k12 => ?_
    refine .dry mixed ?_
    refine .tk 0 rfl rfl rfl rfl (OKY.mv (.t rfl)) ?_
    refine .tk 1 rfl rfl rfl rfl (OKY.nilc (.t rfl)) ?_
    refine .tk 2 rfl rfl rfl rfl (OKY.fieldAddr (.t rfl) fld102_0 ty59) ?_
    refine .tk 4 rfl rfl rfl rfl (OKY.mv (.t rfl)) ?_
    refine .tk 5 rfl rfl rfl rfl (OKY.mv (.t rfl)) ?_
    refine .tk 6 rfl rfl rfl rfl (OKY.nilc (.t rfl)) ?_
    refine .tk 7 rfl rfl rfl rfl (OKY.fieldAddr (.t rfl) fld102_0 ty59) ?_
    refine .tk 9 rfl rfl rfl rfl (OKY.mv (.t rfl)) ?_
    refine .tk 10 rfl rfl rfl rfl (OKY.mv (.t rfl)) ?_
    refine .tk 11 rfl rfl rfl rfl (OKY.nilc (.t rfl)) ?_
    refine .tk 12 rfl rfl rfl rfl (OKY.fieldAddr (.t rfl) fld102_0 ty59) ?_
    refine .tk 14 rfl rfl rfl rfl (OKY.mv (.t rfl)) ?_
    refine .tk 17 rfl rfl rfl rfl (OKY.mv (.t rfl)) ?_
    refine .tk 18 rfl rfl rfl rfl (OKY.nilc (.t rfl)) ?_
    refine .tk 19 rfl rfl rfl rfl (OKY.fieldAddr (.t rfl) fld102_0 ty59) ?_
    refine .tk 21 rfl rfl rfl rfl (OKY.mv (.t rfl)) ?_
    refine .go [] ?_
    refine .s 3 [] rfl rfl rfl (.o rfl (.load1 (.t rfl) (i := 0) rfl ty59 rfl)) ?_
    refine .s 8 [] rfl rfl rfl (.o rfl (.load1 (.t rfl) (i := 0) rfl ty59 rfl)) ?_
    refine .s 13 [] rfl rfl rfl (.o rfl (.load1 (.t rfl) (i := 0) rfl ty59 rfl)) ?_
    refine .s 15 [50] rfl rfl rfl (.o rfl (.ixGr sl59 ty22 (.t rfl) (.t rfl) ⟨by omega, by omega⟩)) ?_
    refine .s 16 [52] rfl rfl rfl (.o rfl (.loadGM (.t rfl) (i := 2) rfl ty22 hrt)) ?_
    refine .s 20 [] rfl rfl rfl (.o rfl (.load1 (.t rfl) (i := 0) rfl ty59 rfl)) ?_
    refine .s 22 [57] rfl rfl rfl (.o rfl (.ixGr sl59 ty22 (.t rfl) (.t rfl) ⟨by omega, by omega⟩)) ?_
    refine .s 23 [59] rfl rfl rfl (.o rfl (.loadGM (.t rfl) (i := 2) rfl ty22 hr)) ?_
    refine .fin [24, 25, 26, 27] (by kernel_rfl) (by kernel_rfl) (fun _ _ _ _ _ h => h) (by kernel_rfl) (by kernel_rfl) (by kernel_rfl) (by kernel_rfl) (by kernel_rfl) (by kernel_rfl) (by kernel_rfl) (by kernel_rfl) (by kernel_rfl) ?_
    refine .cv (Cv.wk (.k 0 rfl (.k 1 rfl (.k 5 rfl (.k 6 rfl (.k 13 rfl (.k 14 rfl (.k 15 rfl (.k 16 rfl (.k 17 rfl (.k 18 rfl (.k 19 rfl (.k 22 rfl (.k 23 rfl (.k 24 rfl (.k 25 rfl (.k 26 rfl (.k 27 rfl (.k 28 rfl (.k 29 rfl (.k 30 rfl (.k 31 rfl (.k 32 rfl (.k 33 rfl (.k 34 rfl (.k 35 rfl (.k 36 rfl (.k 37 rfl (.k 38 rfl (.k 39 rfl (.k 41 rfl (.k 42 rfl (.k 43 rfl (.k 44 rfl (.k 46 rfl (.k 47 rfl (.k 48 rfl (.k 49 rfl (.k 51 rfl (.k 54 rfl (.k 55 rfl (.k 56 rfl (.k 58 rfl (.k 40 rfl (.k 45 rfl (.k 50 rfl (.k 52 rfl (.k 53 rfl (.k 57 rfl (.k 59 rfl (.k 60 rfl .nil))))))))))))))))))))))))))))))))))))))))))))))))))) ?_
    refine st (.ixGr sl59 ty22 (.t rfl) (.t rfl) ⟨by omega, by omega⟩) rfl ?_
    refine .storeGM (z := rt) (.t rfl) (.t rfl) (i := 2) rfl ty22 (by omega) (M' := (_ :: _ :: grM _ _ _ :: _)) rfl ?_
    refine st (.ixGr sl59 ty22 (.t rfl) (.t rfl) ⟨by omega, by omega⟩) rfl ?_
    refine .storeGM (z := r) (.t rfl) (.t rfl) (i := 2) rfl ty22 (by rw [List.length_set]; omega) (M' := (_ :: _ :: grM _ _ _ :: _)) rfl ?_
    refine nl (.thn (k12 _ _ ?_))
    refine .region (st (.mv (.t rfl)) rfl ?_)
    refine st (.mv (.t rfl)) rfl (st (.nilc (.t rfl)) rfl ?_)
    refine st (.fieldAddr (.t rfl) fld102_4 ty4) rfl (st (.load1 (.t rfl) (i := 0) rfl ty4 rfl) rfl ?_)
    refine st (.not (.t rfl)) rfl ?_
    refine st (.nilc (.t rfl)) rfl ?_
    refine st (.fieldAddr (.t rfl) fld102_4 ty4) rfl ?_
    refine .store (.t rfl) (.t rfl) (i := 0) rfl ty4 rfl rfl (Ss' := [_, _, _, _, _, _]) rfl (M' := ((some _, cellM [_, _, _, _, _, _]) :: _ :: _ :: _)) rfl ?_
    refine nl (.thn (k10 _ _ ?_))
    refine .seq fun _ k13 => ?_
    refine .cv (Cv.perm (perm_tail (pre := [_, _, _]) (swap_perm hr hrt hne))) ?_
    refine .region (st (.as (Has.cB true)) rfl ?_)
    refine nl (.thn (k13 _ _ ?_))
    refine .ret ?_
    refine .blr ?_
    refine .thr ?_
    refine .thr ?_
    refine .blr ?_
    refine .thr ?_
    refine rtX1 (.inl rfl) Try.results113 rfl (.tmp (.t rfl) .nil) ?_
    exact ⟨_, _, true, rfl, wkM_len (by rw [List.length_set, List.length_set]), .inr ⟨rfl, i, r, rt, by omega, hr, hrt, he, hz, by rw [if_neg hne]; rfl, by rw [if_neg hne]⟩⟩
   ·have hc3 := BP.f hc3
    have hie : i = ps.length := by omega
    refine .skip ?_
    refine .thn (k10 _ _ ?_)
    refine .seq fun _ k14 => .region (st (.as (Has.cB true)) rfl ?_)
    refine nl (.thn (k14 _ _ ?_))
    refine .ret ?_
    refine .blr ?_
    refine .thr ?_
    refine .thr ?_
    refine .blr ?_
    refine .thr ?_
    refine rtX1 (.inl rfl) Try.results113 rfl (.tmp (.t rfl) .nil) ?_
    exact ⟨_, _, true, rfl, rfl, .inr ⟨rfl, i, r, r, by omega, hr, hie ▸ hr, he, hz, by rw [if_pos hie], by rw [if_pos hie]⟩⟩
  ·have hc2 := BP.f hc2
   have he : cf r.2 col = 0 := (sgn_eq0 _).1 hc2
   refine .skip ?_
   refine .bln ?_
   refine .thn (k8 _ _ ?_)
   refine .region (st (.mv (.t rfl)) rfl ?_)
   refine st (.addI (.t rfl) (Has.cI 1 rfl) (by first | omega | assumption) (by first | omega | assumption)) rfl ?_
   refine st (.as (.t rfl)) rfl ?_
   refine nl ?_
   refine .thn ?_
   refine hK5 (⟨i + 1, by omega, .inl (by omega), fun j r' h1 h2 h3 => by rcases Nat.lt_or_ge j i with h | h; exact hz j r' h1 h h3; obtain rfl : j = i := (by omega); rw [hr] at h3; obtain rfl := Option.some.inj h3; exact he⟩) _ _ ?_ (Cv.mem (.cons (t := 6) (Has.t' rfl ?_) (.k 0 rfl (.k 1 rfl (.k 5 rfl .nil)))) ?_)
   ·show rs.length - (i + 1) < rs.length - i; omega
   ·exact isI_eq (by omega)
   ·rfl
 ·have hc1 := BP.f hc1
  skip
  refine .exit ?_
  refine .the ?_
  refine .the ?_
  refine .blh ?_
  refine .thn (k3 _ _ ?_)
  refine .cv (Cv.wk .nil) ?_
  refine .seq fun _ k15 => .region (st (.as (Has.cB false)) rfl ?_)
  refine nl (.thn (k15 _ _ ?_))
  refine .ret ?_
  refine rtX1 (.inl rfl) Try.results113 rfl (.tmp (.t rfl) .nil) ?_
  exact ⟨_, _, false, rfl, rfl, .inl ⟨rfl, rfl, rfl, fun j r h1 h2 => by rcases Nat.lt_or_ge j i with h | h; exact hz j r h1 h h2; rw [List.getElem?_eq_none (by omega)] at h2; cases h2⟩⟩
theorem bareiss_clear {bw C : Nat} {gp : Gr Int} {gt : Gr Row} {rs : List Row} {ps : List Nat} {last : Int} {odd : Bool} {K : Nat} (hrow : ∀ r ∈ rs, r.2.length = C) (hb : ∀ r ∈ rs, Bd r.2 K) (hC : C ≤ 64) (hR : rs.length ≤ 64) (hpl : ps.length ≤ 64) {col : Nat} {r0 : Row} (hcol : col < C) (hK : K ≤ 100000000) (hlast : (List.length (words last.natAbs)) ≤ K) (h0 : rs[ps.length]? = some r0) : CtrX Try.prog 114 [isPtr bw 0, isI (col : Int)] (wkM bw gp gt rs C ps last odd) (fun S M => ∃ gp' gt' rs', S = isTup [] ∧ M = wkM bw gp' gt' rs' C (ps ++ [col]) (cf r0.2 col) odd ∧ ClrI rs ps.length col last r0.2 rs.length rs') := by
 refine CtrX.intro Try.func114 rfl (by kernel_rfl) Try.ntmps114 rfl fun w0 F0 => ?_
 refine .cv (Cv.wk (.k 0 rfl (.k 1 rfl .nil))) ?_
 refine .fact (Has.rngI (Has.t (t := 1) rfl)) fun lt1 => ?_
 have hpv := pv_len ps
 have hr0C := hrow r0 (List.mem_of_getElem? h0)
 have hr0B := hb r0 (List.mem_of_getElem? h0)
 have hr0L : (r0.2.map nz).length = C := by rw [List.length_map, hr0C]
 have htl : ps.length < rs.length := by rcases Nat.lt_or_ge ps.length rs.length with h | h; exact h; rw [List.getElem?_eq_none h] at h0; cases h0
 refine .seq fun _ k1 => .region (st (.mv (.t rfl)) rfl ?_)
 refine st (.nilc (.t rfl)) rfl ?_
 refine st (.fieldAddr (.t rfl) fld102_2 ty63) rfl (st (.load1 (.t rfl) (i := 0) rfl ty63 rfl) rfl ?_)
 refine st (.eq (.len sl63 (.t rfl)) ((show isI _ = isI (ps.length : Int) from isI_eq (by omega)))) rfl ?_
 refine st (.as (.t rfl)) rfl ?_
 refine nl (.thn (k1 _ _ ?_))
 refine .cv (Cv.wk (.k 0 rfl (.k 1 rfl (.k 4 rfl .nil)))) ?_
 refine .seq fun _ k2 => .region (st (.mv (.t rfl)) rfl ?_)
 refine st (.nilc (.t rfl)) rfl ?_
 refine st (.fieldAddr (.t rfl) fld102_0 ty59) rfl (st (.load1 (.t rfl) (i := 0) rfl ty59 rfl) rfl ?_)
 refine st (.mv (.t rfl)) rfl (st (.ixGr sl59 ty22 (.t rfl) (.t rfl) ⟨by omega, by omega⟩) rfl ?_)
 refine st (.loadGM (.t rfl) (i := 2) rfl ty22 h0) rfl ?_
 refine st (.as (.t rfl)) rfl ?_
 refine nl (.thn (k2 _ _ ?_))
 refine .cv (Cv.wk (.k 0 rfl (.k 1 rfl (.k 4 rfl (.k 5 rfl .nil))))) ?_
 refine .seq fun _ k3 => ?_
 refine .seq fun _ k4 => .region (st (.mv (.t rfl)) rfl ?_)
 refine st (.addI (.t rfl) (Has.cI 1 rfl) (by first | omega | assumption) (by first | omega | assumption)) rfl ?_
 refine st (.as (.t rfl)) rfl ?_
 refine nl (.thn (k4 _ _ ?_))
 refine .block ?_
 refine .loopF [0, 1, 5] (fun (z : { z : Nat × List Row // ps.length < z.1 ∧ (z.1 ≤ rs.length) ∧ ClrI rs ps.length col last r0.2 z.1 z.2 }) => match z with | ⟨(i, rs'), hI⟩ => [(6, isI (i : Int))]) (fun M => fun (z : { z : Nat × List Row // ps.length < z.1 ∧ (z.1 ≤ rs.length) ∧ ClrI rs ps.length col last r0.2 z.1 z.2 }) => match z with | ⟨(i, rs'), hI⟩ => (wk0 bw gp gt rs.length C ps last odd :: grM isI gp (pv ps) :: grM rowV gt rs' :: rs'.map rowM)) (fun (z : { z : Nat × List Row // ps.length < z.1 ∧ (z.1 ≤ rs.length) ∧ ClrI rs ps.length col last r0.2 z.1 z.2 }) => match z with | ⟨(i, rs'), hI⟩ => rs.length - i) (⟨(ps.length + 1, rs), Nat.lt_succ_self _, htl, ClrI.start _ _ _ _ _⟩) (Cv.mem (.cons (t := 6) (Has.t' rfl ?_) (.k 0 rfl (.k 1 rfl (.k 5 rfl .nil)))) ?_) ?_
 ·exact isI_eq (by omega)
 ·rfl
 rintro ⟨⟨i, rs'⟩, hI⟩ K5 hK5
 refine .cv (Cv.wk (.k 6 rfl (.k 0 rfl (.k 1 rfl (.k 5 rfl .nil))))) ?_
 refine .memEq (M' := (wk0 bw gp gt rs.length C ps last odd :: grM isI gp (pv ps) :: grM rowV gt rs' :: rs'.map rowM)) rfl ?_
 simp only [] at hI
 obtain ⟨hti, hin, hcl⟩ := hI
 have hlen := hcl.len
 have h0' := (hcl.at (.inl (Nat.le_refl _))).trans h0
 refine .seq fun _ k6 => ?_
 refine .seq fun _ k7 => .region (st (.mv (.t rfl)) rfl ?_)
 refine st (.mv (.t rfl)) rfl (st (.nilc (.t rfl)) rfl ?_)
 refine st (.fieldAddr (.t rfl) fld102_0 ty59) rfl (st (.load1 (.t rfl) (i := 0) rfl ty59 rfl) rfl ?_)
 refine st (.len sl59 (.t rfl)) rfl (st (.ltI (.t rfl) (.t rfl)) rfl ?_)
 refine nl (.thn (k7 _ _ ?_))
 refine .cond (.t rfl) (fun hc1 => ?_) (fun hc1 => ?_)
 ·have hc1 := BP.t hc1
  obtain ⟨r, hr⟩ : ∃ r, rs[i]? = some r := ⟨_, List.getElem?_eq_getElem (by omega)⟩
  have hrC := hrow r (List.mem_of_getElem? hr)
  have hrB := hb r (List.mem_of_getElem? hr)
  have hrL : (r.2.map nz).length = C := by rw [List.length_map, hrC]
  have hri := (hcl.at (.inr (Nat.le_refl _))).trans hr
  refine .skip ?_
  refine .thn (k6 _ _ ?_)
  refine .seq fun _ k8 => ?_
  refine .block ?_
  refine .seq fun _ k9 => .region (st (.mv (.t rfl)) rfl ?_)
  refine st (.nilc (.t rfl)) rfl ?_
  refine st (.fieldAddr (.t rfl) fld102_0 ty59) rfl (st (.load1 (.t rfl) (i := 0) rfl ty59 rfl) rfl ?_)
  refine st (.mv (.t rfl)) rfl (st (.ixGr sl59 ty22 (.t rfl) (.t rfl) ⟨by omega, by omega⟩) rfl ?_)
  refine st (.loadGM (.t rfl) (i := 2) rfl ty22 hri) rfl ?_
  refine st (.as (.t rfl)) rfl ?_
  refine nl (.thn (k9 _ _ ?_))
  refine .seq fun _ k10 => .region (st (.mv (.t rfl)) rfl ?_)
  refine st (.mv (.t rfl)) rfl (st (.ixGr sl22 ty30 (.t rfl) (.t rfl) ⟨by omega, by omega⟩) rfl ?_)
  refine st (.loadGK zc_len (.t rfl) (i := 3 + i) (wkAt (pre := [_, _, _]) hri) ty30 (getZ (i := col) (by omega))) rfl ?_
  refine .alloc [isB false, SlM isU []] zero30 (fun _ _ => ⟨rfl, nilM _ _, trivial⟩) rfl fun b1 => ?_
  refine .store (.t rfl) (.t rfl) (i := 0) rfl ty30 rfl rfl (Ss' := [_, _]) rfl (M' := ((some _, cellM [_, _]) :: _ :: _ :: _ :: _)) rfl ?_
  refine nl (.thn (k10 _ _ ?_))
  refine .seq fun _ k11 => .region (st (.mv (.t rfl)) rfl ?_)
  refine st (.len sl22 (.t rfl)) rfl (st (.mv (Has.cI 0 rfl)) rfl ?_)
  refine nl (.thn (k11 _ _ ?_))
  refine .block ?_
  refine .loopF [0, 1, 5, 6, 25, 26, 27, 28, 29, 30, 31, 34, 35, 36, 37, 38, 39, 40, 7, 41, 42, 43, 44, 8, 45, 46] (fun (z : { k : Nat // k ≤ C }) => match z with | ⟨k, hk⟩ => [(47, isI (k : Int))]) (fun M => fun (z : { k : Nat // k ≤ C }) => match z with | ⟨k, hk⟩ => (zM b1 (cf r.2 col) :: wk0 bw gp gt rs.length C ps last odd :: grM isI gp (pv ps) :: grM rowV gt rs' :: (rs'.set i (r.1, mixR r0.2 r.2 col last k)).map rowM)) (fun (z : { k : Nat // k ≤ C }) => match z with | ⟨k, hk⟩ => C - k) (⟨0, Nat.zero_le _⟩) (Cv.mem (.cons (t := 47) (Has.t' rfl ?_) (.k 0 rfl (.k 1 rfl (.k 5 rfl (.k 6 rfl (.k 25 rfl (.k 26 rfl (.k 27 rfl (.k 28 rfl (.k 29 rfl (.k 30 rfl (.k 31 rfl (.k 34 rfl (.k 35 rfl (.k 36 rfl (.k 37 rfl (.k 38 rfl (.k 39 rfl (.k 40 rfl (.k 7 rfl (.k 41 rfl (.k 42 rfl (.k 43 rfl (.k 44 rfl (.k 8 rfl (.k 45 rfl (.k 46 rfl .nil))))))))))))))))))))))))))) ?_) ?_
  ·rfl
  ·exact tail4 (mix_start hri)
  rintro ⟨k, hk⟩ K12 hK12
  refine .cv (Cv.wk (.k 47 rfl (.k 0 rfl (.k 1 rfl (.k 5 rfl (.k 6 rfl (.k 25 rfl (.k 26 rfl (.k 27 rfl (.k 28 rfl (.k 29 rfl (.k 30 rfl (.k 31 rfl (.k 34 rfl (.k 35 rfl (.k 36 rfl (.k 37 rfl (.k 38 rfl (.k 39 rfl (.k 40 rfl (.k 7 rfl (.k 41 rfl (.k 42 rfl (.k 43 rfl (.k 44 rfl (.k 8 rfl (.k 45 rfl (.k 46 rfl .nil)))))))))))))))))))))))))))) ?_
  refine .memEq (M' := (zM b1 (cf r.2 col) :: wk0 bw gp gt rs.length C ps last odd :: grM isI gp (pv ps) :: grM rowV gt rs' :: (rs'.set i (r.1, mixR r0.2 r.2 col last k)).map rowM)) rfl ?_
  have hset : (rs'.set i (r.1, mixR r0.2 r.2 col last k))[i]? = some (r.1, mixR r0.2 r.2 col last k) := List.getElem?_set_self (by omega)
  have hset0 : (rs'.set i (r.1, mixR r0.2 r.2 col last k))[ps.length]? = some r0 := (List.getElem?_set_ne (by omega)).trans h0'
  refine .seq fun _ k13 => .region (st (.ltI (.t rfl) (.t rfl)) rfl ?_)
  refine nl (.thn (k13 _ _ ?_))
  refine .seq fun _ k14 => ?_
  refine .cond (.t rfl) (fun hc2 => ?_) (fun hc2 => ?_)
  ·have hc2 := BP.t hc2
   refine .skip ?_
   refine .thn (k14 _ _ ?_)
   refine .seq fun _ k15 => ?_
   refine .block ?_
   refine .seq fun _ k16 => .region (st (.mv (.t rfl)) rfl ?_)
   refine st (.as (.t rfl)) rfl ?_
   refine nl (.thn (k16 _ _ ?_))
   refine .seq fun _ k17 => ?_
   refine .drhS (.cons_cons _ (.cons_cons _ (.cons_cons _ (.cons_cons _ (List.Sublist.refl _))))) ?_
   refine .s [] rfl rfl rfl (.o rfl (.mv (.t rfl))) ?_
   refine .s [] rfl rfl rfl (.o rfl (.mv (.t rfl))) ?_
   refine .s [50, 51] rfl rfl rfl (.o rfl (.ixGr sl22 ty30 (.t rfl) (.t rfl) ⟨by omega, by omega⟩)) ?_
   refine .s [52] rfl rfl rfl (.o rfl (.loadGK zc_len (.t rfl) (i := 4 + i) (wkAt (pre := [_, _, _, _]) (r := (r.1, mixR r0.2 r.2 col last k)) hset) ty30 (show ((mixR r0.2 r.2 col last k).map nz)[k]? = some (nz (cf r.2 k)) from by rw [List.getElem?_map, mixR_at _ _ _ _ (by omega)]; rfl))) ?_
   refine .s [] rfl rfl rfl (.o rfl (.mv (.t rfl))) ?_
   refine .s [] rfl rfl rfl (.o rfl (.mv (.t rfl))) ?_
   refine .s [54, 55] rfl rfl rfl (.o rfl (.ixGr sl22 ty30 (.t rfl) (.t rfl) ⟨by omega, by omega⟩)) ?_
   refine .s [56] rfl rfl rfl (.o rfl (.loadGK zc_len (.t rfl) (i := 4 + ps.length) (wkAt (pre := [_, _, _, _]) hset0) ty30 (getZ (i := col) (by omega)))) ?_
   refine .s [53, 57] rfl rfl rfl (.o rfl (.eq (.call (zint_Mul (by rw [val_words]; have := hrB k; omega) (by rw [val_words]; have := hr0B col; omega)) (.cons (.t rfl) (.cons (.t rfl) .nil))) ((show isZ _ = isZ (cf r.2 k * cf r0.2 col) from isZ_eq (by (try simp only [zv_nz]); (try simp only [zv_nf])))))) ?_
   refine .s [] rfl rfl rfl (.o rfl (.load (.t rfl) (i := 0) rfl ty30 rfl (Ss' := [_, _]) rfl)) ?_
   refine .s [] rfl rfl rfl (.o rfl (.mv (.t rfl))) ?_
   refine .s [] rfl rfl rfl (.o rfl (.mv (.t rfl))) ?_
   refine .s [60, 61] rfl rfl rfl (.o rfl (.ixGr sl22 ty30 (.t rfl) (.t rfl) ⟨by omega, by omega⟩)) ?_
   refine .s [62] rfl rfl rfl (.o rfl (.loadGK zc_len (.t rfl) (i := 4 + ps.length) (wkAt (pre := [_, _, _, _]) hset0) ty30 (getZ (i := k) (by omega)))) ?_
   refine .s [59, 63] rfl rfl rfl (.o rfl (.eq (.call (zint_Mul (by rw [val_words]; have := hrB col; omega) (by rw [val_words]; have := hr0B k; omega)) (.cons (.t rfl) (.cons (.t rfl) .nil))) ((show isZ _ = isZ (cf r.2 col * cf r0.2 k) from isZ_eq (by rw [zv_nf, zv_nz]))))) ?_
   refine .s [58, 64] rfl rfl rfl (.o rfl (.eq (.call (zint_Sub (by rw [val_words]; have := nz_mul (cf r.2 k) (cf r0.2 col); have := hrB k; have := hr0B col; omega) (by rw [val_words]; have := nz_mul (cf r.2 col) (cf r0.2 k); have := hrB col; have := hr0B k; omega)) (.cons (.t rfl) (.cons (.t rfl) .nil))) ((show isZ _ = isZ (cf r.2 k * cf r0.2 col - cf r.2 col * cf r0.2 k) from isZ_eq (by simp only [zv_nf]))))) ?_
   refine .als (n1 := 17) (ds := [10]) (zs := [[isB false, SlM isU []]]) rfl (.cons rfl rfl zero30 (fun _ _ => ⟨rfl, nilM _ _, trivial⟩) .nil) (.cons_cons _ (.cons_cons _ (.cons_cons _ (.cons_cons _ (List.Sublist.refl _))))) (Cs := [_]) rfl ?_
   refine .fin (n := 17) mixed rfl (by kernel_rfl) (by kernel_rfl) (by kernel_rfl) (fun bs hbs => ?_)
   obtain ⟨b2, rfl⟩ := len1 hbs
   refine .memEq (M' := (_ :: _ :: _ :: _ :: _ :: _)) rfl ?_
   refine .cv (Cv.wk (.k 0 rfl (.k 1 rfl (.k 5 rfl (.k 6 rfl (.k 25 rfl (.k 26 rfl (.k 27 rfl (.k 28 rfl (.k 29 rfl (.k 30 rfl (.k 31 rfl (.k 34 rfl (.k 35 rfl (.k 36 rfl (.k 37 rfl (.k 38 rfl (.k 39 rfl (.k 40 rfl (.k 7 rfl (.k 41 rfl (.k 42 rfl (.k 43 rfl (.k 44 rfl (.k 8 rfl (.k 45 rfl (.k 46 rfl (.k 47 rfl (.k 48 rfl (.k 49 rfl (.k 9 rfl (.k 50 rfl (.k 51 rfl (.k 52 rfl (.k 53 rfl (.k 54 rfl (.k 55 rfl (.k 56 rfl (.k 57 rfl (.k 58 rfl (.k 59 rfl (.k 60 rfl (.k 61 rfl (.k 62 rfl (.k 63 rfl (.k 64 rfl (.k 65 rfl (.cons (t := 10) (Has.op rfl) .nil)))))))))))))))))))))))))))))))))))))))))))))))) ?_
   refine .store (.t rfl) (.t rfl) (i := 0) rfl ty30 rfl rfl (Ss' := [_, _]) rfl (M' := ((some _, cellM [_, _]) :: _ :: _ :: _ :: _ :: _)) rfl ?_
   refine nl (.thn (k17 _ _ ?_))
   refine .dry mixed ?_
   refine .tk 0 rfl rfl rfl rfl (OKY.mv (.t rfl)) ?_
   refine .tk 1 rfl rfl rfl rfl (OKY.mv (.t rfl)) ?_
   refine .tk 3 rfl rfl rfl rfl (OKY.mv (.t rfl)) ?_
   refine .tk 4 rfl rfl rfl rfl (OKY.nilc (.t rfl)) ?_
   refine .tk 5 rfl rfl rfl rfl (OKY.fieldAddr (.t rfl) fld102_3 ty30) ?_
   refine .go [10] ?_
   refine .s 2 [] rfl rfl rfl (.o rfl (.load (.t rfl) (i := 0) rfl ty30 rfl (Ss' := [_, _]) rfl)) ?_
   refine .s 6 [] rfl rfl rfl (.o rfl (.load (.t rfl) (i := 2) rfl ty30 rfl (Ss' := [_, _]) rfl)) ?_
   refine .s 7 [69, 73] rfl rfl rfl (.o rfl (.call (zint_Exact (by rw [val_words]; have := nz_sub (cf r.2 k * cf r0.2 col) (cf r.2 col * cf r0.2 k); have := nz_mul (cf r.2 k) (cf r0.2 col); have := nz_mul (cf r.2 col) (cf r0.2 k); have := hrB k; have := hrB col; have := hr0B k; have := hr0B col; omega) (by rw [val_words]; omega)) (.cons (.t rfl) (.cons (.t rfl) .nil)))) ?_
   refine .s 8 [74] rfl rfl rfl (.o rfl (.mv (.t rfl))) ?_
   refine .ea (i := 10) [66] rfl rfl rfl (by kernel_rfl) rfl (OKY.ext (.t rfl) rfl) ?_
   refine .fin [9, 11, 12] (by kernel_rfl) (by kernel_rfl) (fun _ _ _ _ _ h => h) (by kernel_rfl) (by kernel_rfl) (by kernel_rfl) (by kernel_rfl) (by kernel_rfl) (by kernel_rfl) (by kernel_rfl) (by kernel_rfl) (by kernel_rfl) ?_
   refine .cv (Cv.wk (.k 0 rfl (.k 1 rfl (.k 5 rfl (.k 6 rfl (.k 25 rfl (.k 26 rfl (.k 27 rfl (.k 28 rfl (.k 29 rfl (.k 30 rfl (.k 31 rfl (.k 34 rfl (.k 35 rfl (.k 36 rfl (.k 37 rfl (.k 38 rfl (.k 39 rfl (.k 40 rfl (.k 7 rfl (.k 41 rfl (.k 42 rfl (.k 43 rfl (.k 44 rfl (.k 8 rfl (.k 45 rfl (.k 46 rfl (.k 47 rfl (.k 48 rfl (.k 49 rfl (.k 9 rfl (.k 50 rfl (.k 51 rfl (.k 52 rfl (.k 53 rfl (.k 54 rfl (.k 55 rfl (.k 56 rfl (.k 57 rfl (.k 58 rfl (.k 59 rfl (.k 60 rfl (.k 61 rfl (.k 62 rfl (.k 63 rfl (.k 64 rfl (.k 65 rfl (.k 10 rfl (.k 67 rfl (.k 68 rfl (.k 70 rfl (.k 71 rfl (.k 72 rfl (.k 69 rfl (.k 73 rfl (.k 74 rfl (.k 66 rfl .nil))))))))))))))))))))))))))))))))))))))))))))))))))))))))) ?_
   refine st (.eq (.ext (.t rfl) rfl) ((show isZ _ = Flat (zc (nz (clr r0.2 r.2 col last k))) from isZ_eq (by rw [zv_nf, zv_nf]; rfl)))) rfl ?_
   refine st (.ixGr sl22 ty30 (.t rfl) (.t rfl) ⟨by omega, by omega⟩) rfl ?_
   refine .storeGK (z := nz (clr r0.2 r.2 col last k)) zc_len (.t rfl) (.t rfl) (i := 5 + i) (wkAt (pre := [_, _, _, _, _]) (r := (r.1, mixR r0.2 r.2 col last k)) hset) ty30 (by rw [List.length_map, mixR_len _ _ _ _ (by omega)]; omega) (M' := (_ :: _ :: _ :: _ :: _ :: (rs'.set i (r.1, mixR r0.2 r.2 col last (k + 1))).map rowM)) (wkStore (pre := [_, _, _, _, _]) (X := (r.1, mixR r0.2 r.2 col last k)) hset (mixR_set _ _ _ _ (by omega))) ?_
   refine nl ?_
   refine .bln ?_
   refine .thn (k15 _ _ ?_)
   refine .region (st (.addI (.t rfl) (Has.cI 1 rfl) (by first | omega | assumption) (by first | omega | assumption)) rfl ?_)
   refine st (.mv (.t rfl)) rfl ?_
   refine nl ?_
   refine .thn ?_
   refine hK12 (⟨k + 1, by omega⟩) _ _ ?_ (Cv.trans (Cv.drop ((.cons _ (.cons_cons _ (.cons_cons _ (.cons_cons _ (.cons_cons _ (List.Sublist.refl _)))))))) (Cv.mem (.cons (t := 47) (Has.t' rfl ?_) (.k 0 rfl (.k 1 rfl (.k 5 rfl (.k 6 rfl (.k 25 rfl (.k 26 rfl (.k 27 rfl (.k 28 rfl (.k 29 rfl (.k 30 rfl (.k 31 rfl (.k 34 rfl (.k 35 rfl (.k 36 rfl (.k 37 rfl (.k 38 rfl (.k 39 rfl (.k 40 rfl (.k 7 rfl (.k 41 rfl (.k 42 rfl (.k 43 rfl (.k 44 rfl (.k 8 rfl (.k 45 rfl (.k 46 rfl .nil))))))))))))))))))))))))))) ?_))
   ·show C - (k + 1) < C - k; omega
   ·exact isI_eq (by omega)
   ·rfl
  ·have hc2 := BP.f hc2
   refine .exit ?_
   refine .the ?_
   refine .the ?_
   refine .blh ?_
   refine .bln ?_
   refine .thn (k8 _ _ ?_)
   refine .region (st (.mv (.t rfl)) rfl ?_)
   refine st (.addI (.t rfl) (Has.cI 1 rfl) (by first | omega | assumption) (by first | omega | assumption)) rfl ?_
   refine st (.as (.t rfl)) rfl ?_
   refine nl ?_
   refine .thn ?_
   have hkC : k = r.2.length := by omega
   subst hkC
   refine hK5 (⟨(i + 1, rs'.set i (r.1, clrL r0.2 r.2 col last)), by show ps.length < i + 1; omega, by show i + 1 ≤ _; omega, hcl.step hti hr⟩) _ _ ?_ (Cv.trans (Cv.drop ((.cons _ (.cons_cons _ (.cons_cons _ (.cons_cons _ (List.Sublist.refl _))))))) (Cv.mem (.cons (t := 6) (Has.t' rfl ?_) (.k 0 rfl (.k 1 rfl (.k 5 rfl .nil)))) ?_))
   ·show rs.length - (i + 1) < rs.length - i; omega
   ·exact isI_eq (by omega)
   ·exact wk_round hri
 ·have hc1 := BP.f hc1
  refine .exit ?_
  refine .the ?_
  refine .the ?_
  refine .blh ?_
  refine .thn (k3 _ _ ?_)
  refine .cv (Cv.wk (.k 0 rfl (.k 1 rfl (.k 5 rfl .nil)))) ?_
  refine .seq fun _ k18 => .region (st (.mv (.t rfl)) rfl ?_)
  refine st (.mv (.t rfl)) rfl (st (.mv (.t rfl)) rfl ?_)
  refine st (.ixGr sl22 ty30 (.t rfl) (.t rfl) ⟨by omega, by omega⟩) rfl ?_
  refine st (.loadGK zc_len (.t rfl) (i := 3 + ps.length) (wkAt (pre := [_, _, _]) h0') ty30 (getZ (i := col) (by omega))) rfl ?_
  refine st (.nilc (.t rfl)) rfl ?_
  refine st (.fieldAddr (.t rfl) fld102_3 ty30) rfl ?_
  refine .store (.t rfl) (.t rfl) (i := 0) rfl ty30 rfl rfl (Ss' := [_, _, _, _, _, _]) rfl (M' := ((some _, cellM [_, _, _, _, _, _]) :: _ :: _ :: _)) rfl ?_
  refine nl (.thn (k18 _ _ ?_))
  refine .cv (Cv.wk (.k 0 rfl (.k 1 rfl .nil))) ?_
  refine .region (st (.mv (.t rfl)) rfl ?_)
  refine st (.mv (.t rfl)) rfl (st (.nilc (.t rfl)) rfl ?_)
  refine st (.fieldAddr (.t rfl) fld102_2 ty63) rfl (st (.load1 (.t rfl) (i := 0) rfl ty63 rfl) rfl ?_)
  refine st (.mv (.t rfl)) rfl (st (.buildS [isI 0] sl63 ty3 zero3 (fun _ _ => ⟨⟨rfl, by decide, by decide⟩, trivial⟩) rfl rfl (.cons (.t rfl) rfl rfl rfl .nil) rfl (S := SlM isI [(col : Int)]) rfl) rfl ?_)
  refine .appendG (f := isI) (u := 0) sl63 ty3 zero3 (fun _ _ => ⟨⟨rfl, by decide, by decide⟩, trivial⟩) (fun _ => inferInstance) by3 (.t rfl) (i := 1) rfl (.t rfl) (by rw [hpv]; show ps.length + 1 ≤ _; omega) (by simp) rfl fun gr1 => ?_
  refine .memEq (M' := (_ :: grM _ _ _ :: _ :: _)) rfl ?_
  refine st (.nilc (.t rfl)) rfl ?_
  refine st (.fieldAddr (.t rfl) fld102_2 ty63) rfl ?_
  refine .store (.t rfl) (.t rfl) (i := 0) rfl ty63 rfl rfl (Ss' := [_, _, _, _, _, _]) rfl (M' := ((some _, cellM [_, _, _, _, _, _]) :: _ :: _ :: _)) rfl ?_
  refine nl ?_
  refine rtX0 (.inr rfl) Try.results114 rfl ?_
  exact ⟨gr1, gt, rs', rfl, wk_clr hlen.symm rfl, by obtain rfl : i = rs.length := (by omega); exact hcl⟩
theorem bareiss_run {bw C : Nat} {gp : Gr Int} {gt : Gr Row} {rs : List Row} {K : Nat} (hrow : ∀ r ∈ rs, r.2.length = C) (hb : ∀ r ∈ rs, Bd r.2 K) (hC : C ≤ 64) (hR : rs.length ≤ 64) (hK1 : 1 ≤ K) (hK : (K + 1) * 2 ^ rs.length ≤ 100000000) : CtrX Try.prog 99 [isPtr bw 0] (wkM bw gp gt rs C [] 1 false) (fun S M => ∃ gp' gt' rs' ps' last' odd', S = isTup [] ∧ M = wkM bw gp' gt' rs' C ps' last' odd' ∧ RunI ⟨rs.map Prod.snd, [], 1, false⟩ C K rs.length C rs' ps' last' odd') := by
 refine CtrX.intro Try.func99 rfl (by kernel_rfl) Try.ntmps99 rfl fun w0 F0 => ?_
 refine .cv (Cv.wk (.k 0 rfl .nil)) ?_
 refine .seq fun _ k1 => .region (st (.as (Has.cI 0 rfl)) rfl ?_)
 refine nl (.thn (k1 _ _ ?_))
 refine .block ?_
 refine .loopF [0] (fun (z : { z : Nat × Gr Int × Gr Row × List Row × List Nat × Int × Bool // RunI ⟨rs.map Prod.snd, [], 1, false⟩ C K rs.length z.1 z.2.2.2.1 z.2.2.2.2.1 z.2.2.2.2.2.1 z.2.2.2.2.2.2 }) => match z with | ⟨(c, gp1, gt1, rs1, ps1, last1, odd1), hI⟩ => [(2, isI (c : Int))]) (fun M => fun (z : { z : Nat × Gr Int × Gr Row × List Row × List Nat × Int × Bool // RunI ⟨rs.map Prod.snd, [], 1, false⟩ C K rs.length z.1 z.2.2.2.1 z.2.2.2.2.1 z.2.2.2.2.2.1 z.2.2.2.2.2.2 }) => match z with | ⟨(c, gp1, gt1, rs1, ps1, last1, odd1), hI⟩ => wkM bw gp1 gt1 rs1 C ps1 last1 odd1) (fun (z : { z : Nat × Gr Int × Gr Row × List Row × List Nat × Int × Bool // RunI ⟨rs.map Prod.snd, [], 1, false⟩ C K rs.length z.1 z.2.2.2.1 z.2.2.2.2.1 z.2.2.2.2.2.1 z.2.2.2.2.2.2 }) => match z with | ⟨(c, gp1, gt1, rs1, ps1, last1, odd1), hI⟩ => C - c) (⟨(0, gp, gt, rs, [], 1, false), Nat.zero_le _, rfl, hrow, Nat.zero_le _, fun r hr => (hb r hr).mono (by show K ≤ (K + 1) * 1 - 1; omega), (by show (List.length (words (1 : Int).natAbs)) ≤ (K + 1) * 1 - 1; rw [nz_one]; omega), .zero⟩) (Cv.mem (.cons (t := 2) (Has.t' rfl ?_) (.k 0 rfl .nil)) ?_) ?_
 ·rfl
 ·rfl
 rintro ⟨⟨c, gp1, gt1, rs1, ps1, last1, odd1⟩, hI⟩ K2 hK2
 refine .cv (Cv.wk (.k 2 rfl (.k 0 rfl .nil))) ?_
 refine .memEq (M' := wkM bw gp1 gt1 rs1 C ps1 last1 odd1) rfl ?_
 simp only [] at hI
 have hbn := hI.bnd
 have hpv := pv_len ps1
 have hlen1 := hI.hlen
 have hps1 := hI.hps
 have hcC := hI.hc
 refine .seq fun _ k3 => ?_
 refine .seq fun _ k4 => ?_
 refine .dr ?_
 refine .s [] rfl rfl rfl (.o rfl (.mv (.t rfl))) ?_
 refine .s [] rfl rfl rfl (.o rfl (.mv (.t rfl))) ?_
 refine .s [4] rfl rfl rfl (.o rfl (.nilc (.t rfl))) ?_
 refine .s [5] rfl rfl rfl (.o rfl (.fieldAddr (.t rfl) fld102_1 ty3)) ?_
 refine .s [6] rfl rfl rfl (.o rfl (.load1 (.t rfl) (i := 0) rfl ty3 rfl)) ?_
 refine .s [3, 7] rfl rfl rfl (.o rfl (.ltI (.t rfl) (.t rfl))) ?_
 refine .s [8] rfl rfl rfl (.o rfl (.mv (.t rfl))) ?_
 refine .s [9] rfl rfl rfl (.T rfl rfl rfl (fun hg => have hg' := BP.t hg; OK1.mv (.t rfl))) ?_
 refine .s [9, 10] rfl rfl rfl (.T rfl rfl rfl (fun hg => have hg' := BP.t hg; OK1.nilc (Has.g rfl hg))) ?_
 refine .s [9, 11] rfl rfl rfl (.T rfl rfl rfl (fun hg => have hg' := BP.t hg; OK1.fieldAddr (Has.g rfl hg) fld102_2 ty63)) ?_
 refine .s [9, 12] rfl rfl rfl (.T rfl rfl rfl (fun hg => have hg' := BP.t hg; OK1.load1 (Has.g rfl hg) (i := 0) rfl ty63 rfl)) ?_
 refine .s [9, 13] rfl rfl rfl (.T rfl rfl rfl (fun hg => have hg' := BP.t hg; OK1.len sl63 (Has.g rfl hg))) ?_
 refine .s [9] rfl rfl rfl (.T rfl rfl rfl (fun hg => have hg' := BP.t hg; OK1.mv (.t rfl))) ?_
 refine .s [9, 15] rfl rfl rfl (.T rfl rfl rfl (fun hg => have hg' := BP.t hg; OK1.nilc (Has.g rfl hg))) ?_
 refine .s [9, 16] rfl rfl rfl (.T rfl rfl rfl (fun hg => have hg' := BP.t hg; OK1.fieldAddr (Has.g rfl hg) fld102_0 ty59)) ?_
 refine .s [9, 17] rfl rfl rfl (.T rfl rfl rfl (fun hg => have hg' := BP.t hg; OK1.load1 (Has.g rfl hg) (i := 0) rfl ty59 rfl)) ?_
 refine .s [9, 18] rfl rfl rfl (.T rfl rfl rfl (fun hg => have hg' := BP.t hg; OK1.len sl59 (Has.g rfl hg))) ?_
 refine .fin (n := 17) mixed (by kernel_rfl) (by kernel_rfl) (by kernel_rfl) ?_
 refine .cv (Cv.wk (.k 0 rfl (.k 2 rfl (.k 3 rfl (.k 4 rfl (.k 5 rfl (.k 6 rfl (.k 7 rfl (.k 8 rfl (.k 9 rfl (.k 10 rfl (.k 11 rfl (.k 12 rfl (.k 13 rfl (.k 14 rfl (.k 15 rfl (.k 16 rfl (.k 17 rfl (.k 18 rfl (.k 19 rfl .nil)))))))))))))))))))) ?_
 refine stT rfl rfl (fun hg => have hg' := BP.t hg; OK1.ltI (Has.g rfl hg) (Has.g rfl hg)) rfl ?_
 refine st (.pickAnd (.t rfl) (fun h => Has.g rfl h)) rfl ?_
 refine nl (.thn (k4 _ _ ?_))
 refine .cond (.t rfl) (fun hc1 => ?_) (fun hc1 => ?_)
 ·have hc1 := BP.t hc1
  refine .skip ?_
  refine .thn (k3 _ _ ?_)
  refine .seq fun _ k5 => ?_
  refine .block ?_
  refine .seq fun _ k6 => .region (st (.mv (.t rfl)) rfl ?_)
  refine st (.mv (.t rfl)) rfl ?_
  refine .callX (bareiss_find (col := c) hI.hrow hI.hb hC (by omega) (by omega) (by omega) (by omega)) (perm0 _) (.cons (.t rfl) (.cons (.t rfl) .nil)) rfl ?_
  rintro _ _ ⟨rs2, odd2, ok, rfl, rfl, hF⟩
  refine .memEq (M' := wkM bw gp1 gt1 rs2 C ps1 last1 odd2) (List.append_nil _) ?_
  refine nl (.thn (k6 _ _ ?_))
  refine .cond (.t rfl) (fun hc2 => ?_) (fun hc2 => ?_)
  ·have hc2 := BP.t hc2
   subst hc2
   obtain ⟨r0, h0, hl2, htR, hrow2, hb2, hrun⟩ := hI.yes (by omega) hF
   refine .region (st (.mv (.t rfl)) rfl ?_)
   refine st (.mv (.t rfl)) rfl ?_
   refine .callX (bareiss_clear (col := c) (r0 := r0) hrow2 hb2 hC (by omega) (by omega) (by omega) (by omega) hI.hl h0) (perm0 _) (.cons (.t rfl) (.cons (.t rfl) .nil)) rfl ?_
   rintro _ _ ⟨gp3, gt3, rs3, rfl, rfl, hcl⟩
   refine .memEq (M' := wkM bw gp3 gt3 rs3 C (ps1 ++ [c]) (cf r0.2 c) odd2) (List.append_nil _) ?_
   refine nl ?_
   refine .bln ?_
   refine .thn (k5 _ _ ?_)
   refine .region (st (.mv (.t rfl)) rfl ?_)
   refine st (.addI (.t rfl) (Has.cI 1 rfl) (by first | omega | assumption) (by first | omega | assumption)) rfl ?_
   refine st (.as (.t rfl)) rfl ?_
   refine nl ?_
   refine .thn ?_
   refine hK2 (⟨(c + 1, gp3, gt3, rs3, ps1 ++ [c], cf r0.2 c, odd2), hrun rs3 hcl⟩) _ _ ?_ (Cv.mem (.cons (t := 2) (Has.t' rfl ?_) (.k 0 rfl .nil)) ?_)
   ·show C - (c + 1) < C - c; omega
   ·exact isI_eq (by omega)
   ·rfl
  ·have hc2 := BP.f hc2
   subst hc2
   have hno := hI.no (by omega) hF
   refine .skip ?_
   refine .bln ?_
   refine .thn (k5 _ _ ?_)
   refine .region (st (.mv (.t rfl)) rfl ?_)
   refine st (.addI (.t rfl) (Has.cI 1 rfl) (by first | omega | assumption) (by first | omega | assumption)) rfl ?_
   refine st (.as (.t rfl)) rfl ?_
   refine nl ?_
   refine .thn ?_
   refine hK2 (⟨(c + 1, gp1, gt1, rs2, ps1, last1, odd2), hno⟩) _ _ ?_ (Cv.mem (.cons (t := 2) (Has.t' rfl ?_) (.k 0 rfl .nil)) ?_)
   ·show C - (c + 1) < C - c; omega
   ·exact isI_eq (by omega)
   ·rfl
 ·have hc1 := BP.f hc1
  refine .exit ?_
  refine .the ?_
  refine .the ?_
  refine .blh ?_
  refine rtX0 (.inr rfl) Try.results99 rfl ?_
  exact ⟨gp1, gt1, rs1, ps1, last1, odd1, rfl, rfl, hI.fin (by omega)⟩
theorem bareiss_done {R C K : Nat} {xs : List (Bool × List Nat)} (hx : Bd (vals xs) K) (hK1 : 1 ≤ K) (hR : R ≤ 64) (hC : C ≤ 64) (hl : xs.length = R * C) (hK : (K + 1) * 2 ^ R ≤ 100000000) : CtrX Try.prog 66 [isM (R : Int) (C : Int) xs] ([]) (fun S M => ∃ rs ps last odd, S = isTup [wkF (rs.map Prod.snd) C ps last odd, isI 0] ∧ M = [] ∧ RunI ⟨rowsOf R C (vals xs), [], 1, false⟩ C K R C rs ps last odd) := by
 refine CtrX.intro Try.func66 rfl (by kernel_rfl) Try.ntmps66 rfl fun w0 F0 => ?_
 refine .cv (Cv.wk (.k 0 rfl .nil)) ?_
 have hfo := formB_true hR hC hl
 refine .seq fun _ k1 => .region (.box (.t rfl) rfl fun b1 => ?_)
 refine st (.as Has.cP) rfl ?_
 refine st (.as (Has.cI 0 rfl)) rfl ?_
 refine nl (.thn (k1 _ _ ?_))
 refine .seq fun _ k2 => ?_
 refine .seq fun _ k3 => .region (st (.load (.t rfl) (i := 0) rfl ty24 rfl (Ss' := [_, _, _]) rfl) rfl ?_)
 refine st (.eq (.call (zmat_Formed) (.cons (.t rfl) .nil)) ((show isB _ = isB true from isB_eq hfo))) rfl ?_
 refine st (.not (.t rfl)) rfl ?_
 refine nl (.thn (k3 _ _ ?_))
 refine .cond (.t rfl) (fun hc1 => ?_) (fun hc1 => ?_)
 ·have hc1 := BP.t hc1
  simp at hc1
 ·have hc1 := BP.f hc1
  refine .skip ?_
  refine .thn (k2 _ _ ?_)
  refine .seq fun _ k4 => .region (st (.load (.t rfl) (i := 0) rfl ty24 rfl (Ss' := [_, _, _]) rfl) rfl ?_)
  refine .cv (Cv.drop ((.cons _ .slnil))) ?_
  refine .cv (Cv.wk (.k 0 rfl (.k 2 rfl (.k 3 rfl (.k 5 rfl (.k 6 rfl (.k 7 rfl (.k 8 rfl .nil)))))))) ?_
  refine .callX (bareiss_begun hx (by have := Nat.mul_le_mul_left (K + 1) (Nat.one_le_pow R 2 (by decide)); omega) hR hC hl) (perm0 _) (.cons (.t rfl) .nil) rfl ?_
  rintro _ _ ⟨bw, gt, rs0, rfl, rfl, hrs0⟩
  have hl0 : rs0.length = R := by have := congrArg List.length hrs0; rwa [List.length_map, rowsOf_len] at this
  obtain ⟨hrow0, hb0⟩ := rowsOf_all hx hrs0
  refine .memEq (M' := wkM bw Gr.nil gt rs0 C [] 1 false) (List.append_nil _) ?_
  refine st (.as (.t rfl)) rfl ?_
  refine nl (.thn (k4 _ _ ?_))
  refine .cv (Cv.wk (.k 2 rfl (.k 3 rfl (.k 4 rfl .nil)))) ?_
  refine .seq fun _ k5 => .region (st (.mv (.t rfl)) rfl ?_)
  refine .callX (bareiss_run (rs := rs0) hrow0 hb0 hC (by omega) hK1 (by rw [hl0]; exact hK)) (perm0 _) (.cons (.t rfl) .nil) rfl ?_
  rintro _ _ ⟨gp, gt2, rs, ps, last, odd, rfl, rfl, hRun⟩
  rw [hrs0, hl0] at hRun
  refine .memEq (M' := wkM bw gp gt2 rs C ps last odd) (List.append_nil _) ?_
  refine nl (.thn (k5 _ _ ?_))
  refine .seq fun _ k6 => ?_
  refine .cv (Cv.freezeWk (t := 4) rfl rfl) ?_
  refine .region (st (.mv (.t rfl)) rfl ?_)
  refine st (.as (.t rfl)) rfl (st (.as (Has.cI 0 rfl)) rfl ?_)
  refine nl (.thn (k6 _ _ ?_))
  refine .ret ?_
  refine rtXN (.inl rfl) Try.results66 rfl rfl (.tmp (.t rfl) (.tmp (.t rfl) .nil)) ?_
  exact ⟨rs, ps, last, odd, rfl, rfl, hRun⟩
theorem bareiss_done_bad {r c : Int} {xs : List (Bool × List Nat)} (hf : formB r c xs.length = false) : Ctr Try.prog 66 [isM r c xs] (isTup [nilP, isI 2]) := by
 refine Ctr.intro Try.func66 rfl (by kernel_rfl) Try.ntmps66 rfl fun w0 F0 => ?_
 refine .cv (Cv.wk (.k 0 rfl .nil)) ?_
 refine .seq fun _ k1 => .region (.box (.t rfl) rfl fun b1 => ?_)
 refine st (.as Has.cP) rfl ?_
 refine st (.as (Has.cI 0 rfl)) rfl ?_
 refine nl (.thn (k1 _ _ ?_))
 refine .seq fun _ k2 => ?_
 refine .seq fun _ k3 => .region (st (.load (.t rfl) (i := 0) rfl ty24 rfl (Ss' := [_, _, _]) rfl) rfl ?_)
 refine st (.eq (.call (zmat_Formed) (.cons (.t rfl) .nil)) ((show isB _ = isB false from isB_eq hf))) rfl ?_
 refine st (.not (.t rfl)) rfl ?_
 refine nl (.thn (k3 _ _ ?_))
 refine .cond (.t rfl) (fun hc1 => ?_) (fun hc1 => ?_)
 ·have hc1 := BP.t hc1
  refine .seq fun _ k4 => .region (st (.as Has.cP) rfl ?_)
  refine st (.as (Has.cI 2 rfl)) rfl ?_
  refine nl (.thn (k4 _ _ ?_))
  refine .ret ?_
  refine .thr ?_
  refine rtN (.inl rfl) Try.results66 rfl rfl (.tmp (Has.t' rfl ?_) (.tmp (Has.t' rfl ?_) .nil))
  all_goals (rfl)
 ·have hc1 := BP.f hc1
  simp at hc1
end Go.Proofs.Ythkdmhaafanjlaa
namespace Go.Proofs.Ythkdmhaafanjlaa
open Go.En Go.RowKit
set_option maxRecDepth 10000
set_option maxHeartbeats 4000000
open Go.Nt
open Go.Pz
open Go.Mz
open Go.Dt
theorem bareiss_matrix {rs : List (List Int)} {C : Nat} {ps : List Nat} {last : Int} {odd : Bool} (hrow : ∀ r ∈ rs, r.length ≤ 64) (hR : rs.length ≤ 64) : Ctr Try.prog 67 [wkF rs C ps last odd] (isMz rs.length C (fltn rs)) := by
 refine Ctr.intro Try.func67 rfl (by kernel_rfl) Try.ntmps67 rfl fun w0 F0 => ?_
 refine .cv (Cv.wk (.k 0 rfl .nil)) ?_
 have hmx : ∀ i, (fltn (rs.take i)).length ≤ 4096 := fun i => Nat.le_trans (fltn_len (W := 64) fun r hr => hrow r (List.mem_of_mem_take hr)) (by rw [List.length_take]; exact Nat.le_trans (Nat.mul_le_mul_right 64 (show min i rs.length ≤ 64 by omega)) (by decide))
 refine .seq fun _ k1 => .region (.alloc [isI 0, isI 0, nilS] zero24 (fun _ _ => ⟨⟨rfl, by decide, by decide⟩, ⟨rfl, by decide, by decide⟩, rfl, trivial⟩) rfl fun b1 => ?_)
 refine nl (.thn (k1 _ _ ?_))
 refine .seq fun _ k2 => ?_
 refine .drh [true] (Ms := [_]) rfl ?_
 refine .s [] rfl rfl rfl (.o rfl (.mv (.t rfl))) ?_
 refine .s [6] rfl rfl rfl (.o rfl (.nilcP (.t rfl))) ?_
 refine .s [7] rfl rfl rfl (.o rfl (.fieldAddrP (.t rfl) fld102_0 ty59 (Ss' := [_, _, _, _, _, _]) rfl)) ?_
 refine .s [8] rfl rfl rfl (.o rfl (.loadP1 (.t rfl) ty59)) ?_
 refine .s [9] rfl rfl rfl (.o rfl (.len sl59 (.t rfl))) ?_
 refine .s [] rfl rfl rfl (.o rfl (.mv (.t rfl))) ?_
 refine .s [11] rfl rfl rfl (.o rfl (.nilcP (.t rfl))) ?_
 refine .s [12] rfl rfl rfl (.o rfl (.fieldAddrP (.t rfl) fld102_1 ty3 (Ss' := [_, _, _, _, _]) rfl)) ?_
 refine .s [13] rfl rfl rfl (.o rfl (.loadP1 (.t rfl) ty3)) ?_
 refine .s [10, 14] rfl rfl rfl (.o rfl (.build [isI 0, isI 0, nilS] pl24 zero24 (fun _ _ => ⟨⟨rfl, by decide, by decide⟩, ⟨rfl, by decide, by decide⟩, rfl, trivial⟩) (.cons (.t rfl) rfl rfl rfl (.cons (.t rfl) rfl rfl rfl .nil)) (Z'' := [_, _, _]) rfl)) ?_
 refine .als (n1 := 11) (ds := [3]) (zs := [[isI 0, isI 0, nilS]]) rfl (.cons rfl rfl zero24 (fun _ _ => ⟨⟨rfl, by decide, by decide⟩, ⟨rfl, by decide, by decide⟩, rfl, trivial⟩) .nil) (.cons_cons _ .slnil) (Cs := [_]) rfl ?_
 refine .fin (n := 11) mixed rfl (by kernel_rfl) (by kernel_rfl) (by kernel_rfl) (fun bs hbs => ?_)
 obtain ⟨b2, rfl⟩ := len1 hbs
 refine .memEq (M' := [_, _]) rfl ?_
 refine .cv (Cv.wk (.k 0 rfl (.k 2 rfl (.k 15 rfl (.cons (t := 3) (Has.op rfl) .nil))))) ?_
 refine .store (.t rfl) (.t rfl) (i := 0) rfl ty24 rfl rfl (Ss' := [_, _, _]) rfl (M' := [(some _, cellM [_, _, _]), _]) rfl ?_
 refine nl (.thn (k2 _ _ ?_))
 refine .seq fun _ k3 => ?_
 refine .seq fun _ k4 => ?_
 refine .cv (Cv.growF (Bool × List Nat) (i := 0) (o := 2) rfl rfl rfl) ?_
 refine .memEq (M' := [grMK zc Gr.nil [], _, _]) rfl ?_
 refine .region (st (.mv (.t rfl)) rfl ?_)
 refine st (.nilcP (.t rfl)) rfl ?_
 refine st (.fieldAddrP (.t rfl) fld102_0 ty59 (Ss' := [_, _, _, _, _, _]) rfl) rfl ?_
 refine st (.loadP1 (.t rfl) ty59) rfl ?_
 refine st (.len sl59 (.t rfl)) rfl (st (.mv (Has.cI 0 rfl)) rfl ?_)
 refine nl (.thn (k4 _ _ ?_))
 refine .cv (Cv.wk (.k 2 rfl (.k 3 rfl (.k 19 rfl (.k 20 rfl (.k 21 rfl .nil)))))) ?_
 refine .block ?_
 refine .loopF [2, 3, 19, 20] (fun (z : { z : Nat × Gr (Bool × List Nat) // z.1 ≤ rs.length }) => match z with | ⟨(i, g), hI⟩ => [(21, isI (i : Int))]) (fun M => fun (z : { z : Nat × Gr (Bool × List Nat) // z.1 ≤ rs.length }) => match z with | ⟨(i, g), hI⟩ => [grMK zc g ((fltn (rs.take i)).map nz), (some b2, cellM [isI (rs.length : Int), isI (C : Int), isGr g ((fltn (rs.take i)).map nz).length]), (some b1, cellM [isI 0, isI 0, nilS])]) (fun (z : { z : Nat × Gr (Bool × List Nat) // z.1 ≤ rs.length }) => match z with | ⟨(i, g), hI⟩ => rs.length - i) (⟨(0, Gr.nil), Nat.zero_le _⟩) (Cv.mem (.cons (t := 21) (Has.t' rfl ?_) (.k 2 rfl (.k 3 rfl (.k 19 rfl (.k 20 rfl .nil))))) ?_) ?_
 ·rfl
 ·rfl
 rintro ⟨⟨i, g⟩, hI⟩ K5 hK5
 refine .cv (Cv.wk (.k 21 rfl (.k 2 rfl (.k 3 rfl (.k 19 rfl (.k 20 rfl .nil)))))) ?_
 refine .memEq (M' := [grMK zc g ((fltn (rs.take i)).map nz), (some b2, cellM [isI (rs.length : Int), isI (C : Int), isGr g ((fltn (rs.take i)).map nz).length]), (some b1, cellM [isI 0, isI 0, nilS])]) rfl ?_
 simp only [] at hI
 have hfl := hmx i
 refine .seq fun _ k6 => .region (st (.ltI (.t rfl) (.t rfl)) rfl ?_)
 refine nl (.thn (k6 _ _ ?_))
 refine .seq fun _ k7 => ?_
 refine .cond (.t rfl) (fun hc1 => ?_) (fun hc1 => ?_)
 ·have hc1 := BP.t hc1
  obtain ⟨r, hr⟩ : ∃ r, rs[i]? = some r := ⟨_, List.getElem?_eq_getElem (by omega)⟩
  have hrW := hrow r (List.mem_of_getElem? hr)
  refine .skip ?_
  refine .thn (k7 _ _ ?_)
  refine .seq fun _ k8 => ?_
  refine .block ?_
  refine .seq fun _ k9 => .region (st (.ixP sl59 ty22 (.t rfl) (.t rfl) ⟨by omega, by omega⟩ hr) rfl ?_)
  refine st (.loadP1 (.t rfl) ty22) rfl ?_
  refine st (.as (.t rfl)) rfl ?_
  refine nl (.thn (k9 _ _ ?_))
  refine .region (st (.fieldAddr (.t rfl) fld24_2 ty22) rfl ?_)
  refine st (.load1 (.t rfl) (i := 1) rfl ty22 rfl) rfl (st (.mv (.t rfl)) rfl ?_)
  refine .appendGK0 (fk := zc) (u := (false, [])) zc_len (by decide) (fun _ => inferInstance) sl22 ty30 zero30 (fun _ _ => ⟨rfl, nilM _ _, trivial⟩) by30 (.t rfl) (i := 0) rfl (.t rfl) (by rw [List.length_map, List.length_map]; omega) rfl fun gr1 => ?_
  refine .memEq (M' := [grMK _ _ _, _, _]) rfl ?_
  refine st (.fieldAddr (.t rfl) fld24_2 ty22) rfl ?_
  refine .store (.t rfl) (.t rfl) (i := 1) rfl ty22 rfl rfl (Ss' := [_, _, _]) rfl (M' := [_, (some _, cellM [_, _, _]), _]) rfl ?_
  refine nl ?_
  refine .bln ?_
  refine .thn (k8 _ _ ?_)
  refine .region (st (.addI (.t rfl) (Has.cI 1 rfl) (by first | omega | assumption) (by first | omega | assumption)) rfl ?_)
  refine st (.mv (.t rfl)) rfl ?_
  refine nl ?_
  refine .thn ?_
  refine hK5 (⟨(i + 1, gr1), by show i + 1 ≤ rs.length; omega⟩) _ _ ?_ (Cv.mem (.cons (t := 21) (Has.t' rfl ?_) (.k 2 rfl (.k 3 rfl (.k 19 rfl (.k 20 rfl .nil))))) ?_)
  ·show rs.length - (i + 1) < rs.length - i; omega
  ·exact isI_eq (by omega)
  ·exact grF_eq (by rw [fltn_snoc hr, List.map_append, List.length_append]) (by rw [fltn_snoc hr, List.map_append])
 ·have hc1 := BP.f hc1
  refine .exit ?_
  refine .the ?_
  refine .the ?_
  refine .blh ?_
  refine .thn (k3 _ _ ?_)
  refine .seq fun _ k10 => ?_
  refine .cv (Cv.freezeF (k := 2) (i := 0) (j := 0) (o := 2) rfl rfl rfl rfl (gr_lenK zc_len) (gr_takeK zc_len) (Ss' := [_, _, SlK 2 zc ((fltn (rs.take i)).map nz)]) rfl) ?_
  refine .memEq (M' := [(some _, cellM [_, _, SlK 2 zc ((fltn (rs.take i)).map nz)]), _]) rfl ?_
  refine .cv (Cv.wk (.k 2 rfl (.k 3 rfl (.k 19 rfl (.k 20 rfl (.k 21 rfl (.k 22 rfl .nil))))))) ?_
  refine .region (st (.load (.t rfl) (i := 0) rfl ty24 rfl (Ss' := [_, _, _]) rfl) rfl ?_)
  refine .store (.t rfl) (.t rfl) (i := 1) rfl ty24 rfl rfl (Ss' := [_, _, _]) rfl (M' := [_, (some _, cellM [_, _, _])]) rfl ?_
  refine nl (.thn (k10 _ _ ?_))
  refine .cv (Cv.wk (.k 2 rfl .nil)) ?_
  refine .ret ?_
  refine rt1 (.inl rfl) Try.results67 rfl (.cell rfl (i := 1) rfl ty24 rfl ?_ .nil)
  all_goals (exact isMz_eq (by rw [List.take_of_length_le (by omega)]))
theorem bareiss_Echelon_bad {r c : Int} {xs : List (Bool × List Nat)} (hf : formB r c xs.length = false) : Ctr Try.prog 30 [isM r c xs] (isTup [isM0, SlM isI [], isI 2]) := by
 refine Ctr.intro Try.func30 rfl (by kernel_rfl) Try.ntmps30 rfl fun w0 F0 => ?_
 refine .cv (Cv.wk (.k 0 rfl .nil)) ?_
 refine .seq fun _ k1 => .region (.box (.t rfl) rfl fun b1 => ?_)
 refine .alloc [isI 0, isI 0, SlK 2 zc ([] : List (Bool × List Nat))] zero24 (fun _ _ => ⟨⟨rfl, by decide, by decide⟩, ⟨rfl, by decide, by decide⟩, nilK, trivial⟩) rfl fun b2 => ?_
 refine st (.as (Has.cW (f := isI))) rfl ?_
 refine st (.as (Has.cI 0 rfl)) rfl ?_
 refine nl (.thn (k1 _ _ ?_))
 refine .seq fun _ k2 => .region (st (.load (.t rfl) (i := 1) rfl ty24 rfl (Ss' := [_, _, _]) rfl) rfl ?_)
 refine st (.call (bareiss_done_bad hf) (.cons (.t rfl) .nil)) rfl ?_
 refine st (.mv (.t rfl)) rfl (st (.ext (.t rfl) rfl) rfl ?_)
 refine st (.ext (.t rfl) rfl) rfl ?_
 refine st (.as (.t rfl)) rfl (st (.as (.t rfl)) rfl ?_)
 refine nl (.thn (k2 _ _ ?_))
 refine .cv (Cv.wk (.k 2 rfl (.k 3 rfl (.k 4 rfl (.k 5 rfl (.k 6 rfl .nil)))))) ?_
 refine .seq fun _ k3 => ?_
 refine .seq fun _ k4 => .region (st (.mv (.t rfl)) rfl ?_)
 refine st (.neI (.t rfl) (Has.cI 0 rfl)) rfl ?_
 refine nl (.thn (k4 _ _ ?_))
 refine .cond (.t rfl) (fun hc1 => ?_) (fun hc1 => ?_)
 ·have hc1 := BP.t hc1
  refine .seq fun _ k5 => .region (st (.build [isI 0, isI 0, SlK 2 zc ([] : List (Bool × List Nat))] pl24 zero24 (fun _ _ => ⟨⟨rfl, by decide, by decide⟩, ⟨rfl, by decide, by decide⟩, nilK, trivial⟩) .nil (Z'' := [_, _, _]) rfl) rfl ?_)
  refine st (.mv (.t rfl)) rfl ?_
  refine .store (.t rfl) (.t rfl) (i := 0) rfl ty24 rfl rfl (Ss' := [_, _, _]) rfl (M' := [(some _, cellM [_, _, _]), _]) rfl ?_
  refine st (.as (Has.cW (f := isI))) rfl ?_
  refine st (.as (.t rfl)) rfl ?_
  refine nl (.thn (k5 _ _ ?_))
  refine .cv (Cv.wk (.k 2 rfl (.k 3 rfl (.k 4 rfl (.k 5 rfl .nil))))) ?_
  refine .ret ?_
  refine .thr ?_
  refine rtN (.inl rfl) Try.results30 rfl rfl (.cell rfl (i := 0) rfl ty24 rfl ?_ (.tmp (Has.t' rfl ?_) (.tmp (Has.t' rfl ?_) .nil)))
  ·rfl
  ·rfl
  ·rfl
 ·have hc1 := BP.f hc1
  exfalso; simp at hc1
end Go.Proofs.Ythkdmhaafanjlaa
