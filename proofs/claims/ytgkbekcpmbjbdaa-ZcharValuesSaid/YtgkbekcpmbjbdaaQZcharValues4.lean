/- Rules and contracts, part 4 of 5. -/
import Derived.Test.YtgkbekcpmbjbdaaQZcharValues3
/- Contracts: products and transposes of matrices. -/
namespace Go.Proofs.Ytgkbekcpmbjbdaa
open Go.En Go.RowKit
set_option linter.unusedVariables false
set_option maxRecDepth 10000
open Go.Nt
open Go.Pz
open Go.Mz
set_option maxHeartbeats 4000000 in
theorem zmat_Of_1 {C i k : Nat} {l : List Int} (hx : l.length ≤ 4096) (hl : i * C + k < l.length) : Ctr Try.prog 104 [isI (i : Int), isI (k : Int), PtrL [SlM isI l], PtrL [isI (C : Int)]] (isZ (cf l (i * C + k))) := by
  refine Ctr.intro Try.func104 rfl (by kernel_rfl) Try.ntmps104 rfl fun w0 F0 => ?_
  refine Tri.cv (Cv.wk (.cons (t := 0) (Has.t rfl) (.cons (t := 1) (Has.t rfl) (.cons (t := 2) (Has.t rfl) (.cons (t := 3) (Has.t rfl) .nil))))) ?_
  refine Tri.fact (Has.rngI (Has.t (t := 0) rfl)) fun lt0 => ?_
  refine Tri.fact (Has.rngI (Has.t (t := 1) rfl)) fun lt1 => ?_
  have hcp : ((i : Int) * (C : Int)) = ((i * C : Nat) : Int) := (Int.natCast_mul i C).symm
  refine Tri.seq fun K1 hK1 => ?_
  refine Tri.region ?_
  refine Ops.alloc [isB false, SlM isU []] zero44 (fun _ _ => ⟨rfl, nilM _ _, trivial⟩) rfl fun b1 => ?_
  refine nl ?_
  refine At.thn (hK1 _ _ ?_); clear hK1
  refine Tri.seq fun K2 hK2 => ?_
  refine Tri.region ?_
  refine st (OK1.loadP1 (Has.t rfl) ty117) rfl ?_
  refine st (OK1.mv (Has.t rfl)) rfl ?_
  refine st (OK1.loadP1 (Has.t rfl) ty3) rfl ?_
  refine st (OK1.eq (OK1.mulI (Has.t rfl) (Has.t rfl) (by first | omega | (rw [hcp]; omega)) (by first | omega | (rw [hcp]; omega))) ((show isI _ = isI ((i * C : Nat) : Int) from isI_eq hcp))) rfl ?_
  refine st (OK1.mv (Has.t rfl)) rfl ?_
  refine st (OK1.eq (OK1.addI (Has.t rfl) (Has.t rfl) (by first | omega | (rw [hcp]; omega)) (by first | omega | (rw [hcp]; omega))) ((show isI _ = isI ((i * C + k : Nat) : Int) from isI_eq (by omega)))) rfl ?_
  refine st (OK1.ixP sl117 ty2 (Has.t rfl) (Has.t rfl) ⟨by omega, by omega⟩ (getD_some (d := 0) (by first | omega | (simp only [Int.toNat_natCast, List.length_set]; omega)))) rfl ?_
  refine st (OK1.loadP1 (Has.t rfl) ty2) rfl ?_
  refine st (OK1.call (zint_Of) (.cons (Has.t rfl) .nil)) rfl ?_
  refine Ops.store (Has.t rfl) (Has.t rfl) (i := 0) rfl ty44 rfl rfl (Ss' := [_, _]) rfl (M' := [(some _, cellM [_, _])]) rfl ?_
  refine nl ?_
  refine At.thn (hK2 _ _ ?_); clear hK2
  refine Tri.cv (Cv.wk (.cons (t := 6) (Has.t rfl) .nil)) ?_
  refine Tri.ret ?_
  refine rt1 (.inl rfl) Try.results104 rfl (.cell rfl (i := 0) rfl ty44 rfl ?_ .nil)
  all_goals (rfl)
set_option maxHeartbeats 4000000 in
theorem zmat_Of {R C : Nat} {l : List Int} (hR : R ≤ 64) (hC : C ≤ 64) (hl : l.length = R * C) (hb : ∀ y ∈ l, -9223372036854775808 ≤ y ∧ y < 9223372036854775808) : Ctr Try.prog 49 [isI (R : Int), isI (C : Int), SlM isI l] (isTup [isMz R C (tab (R * C) C fun i k => cf l (i * C + k)), isI 0]) := by
  refine Ctr.intro Try.func49 rfl (by kernel_rfl) Try.ntmps49 rfl fun w0 F0 => ?_
  refine Tri.cv (Cv.wk (.cons (t := 0) (Has.t rfl) (.cons (t := 1) (Has.t rfl) (.cons (t := 2) (Has.t rfl) .nil)))) ?_
  refine Tri.fact (Has.rngI (Has.t (t := 0) rfl)) fun lt0 => ?_
  refine Tri.fact (Has.rngI (Has.t (t := 1) rfl)) fun lt1 => ?_
  refine Tri.fact (Has.lenLt (Has.t (t := 2) rfl)) fun lt2 => ?_
  have hRC := side_le hR hC
  have hcp : ((R : Int) * (C : Int)) = ((R * C : Nat) : Int) := (Int.natCast_mul R C).symm
  refine Tri.seq fun K1 hK1 => ?_
  refine Tri.region ?_
  refine Ops.box (Has.t rfl) rfl fun b1 => ?_
  refine Ops.box (Has.t rfl) rfl fun b2 => ?_
  refine Ops.alloc [isI 0, isI 0, nilS] zero24 (fun _ _ => ⟨⟨rfl, by decide, by decide⟩, ⟨rfl, by decide, by decide⟩, rfl, trivial⟩) rfl fun b3 => ?_
  refine st (OK1.as (Has.cI 0 rfl)) rfl ?_
  refine nl ?_
  refine At.thn (hK1 _ _ ?_); clear hK1
  refine Tri.seq fun K2 hK2 => ?_
  refine Tri.block ?_
  refine Tri.seq fun K3 hK3 => ?_
  refine Tri.region ?_
  refine st (OK1.mv (Has.t rfl)) rfl ?_
  refine st (OK1.call (zmat_side) (.cons (Has.t rfl) .nil)) rfl ?_
  refine st (OK1.not (Has.t rfl)) rfl ?_
  refine st (OK1.mv (Has.t rfl)) rfl ?_
  refine stF rfl rfl (fun hg => have hg' := BP.t hg; OK1.load1 (Has.t rfl) (i := 2) rfl ty3 rfl) rfl ?_
  refine stF rfl rfl (fun hg => have hg' := BP.t hg; OK1.call (zmat_side) (.cons (Has.g rfl hg) .nil)) rfl ?_
  refine stF rfl rfl (fun hg => have hg' := BP.t hg; OK1.not (Has.g rfl hg)) rfl ?_
  refine st (OK1.pickOr (Has.t rfl) (fun h => Has.g rfl (ng h))) rfl ?_
  refine st (OK1.as (Has.t rfl)) rfl ?_
  refine nl ?_
  refine At.thn (hK3 _ _ ?_); clear hK3
  refine Tri.cv (Cv.wk (.cons (t := 0) (Has.t rfl) (.cons (t := 4) (Has.t rfl) (.cons (t := 5) (Has.t rfl) (.cons (t := 6) (Has.t rfl) (.cons (t := 7) (Has.t rfl) (.cons (t := 8) (Has.t rfl) .nil))))))) ?_
  refine Tri.cond (Has.t rfl) (fun hc1 => ?_) (fun hc1 => ?_)
  · have hc1 := BP.t hc1
    omega
  · have hc1 := BP.f hc1
    refine Tri.seq fun K4 hK4 => ?_
    refine Tri.region ?_
    refine st (OK1.load1 (Has.t rfl) (i := 1) rfl ty117 rfl) rfl ?_
    refine st (OK1.len sl117 (Has.t rfl)) rfl ?_
    refine st (OK1.mv (Has.t rfl)) rfl ?_
    refine st (OK1.load1 (Has.t rfl) (i := 2) rfl ty3 rfl) rfl ?_
    refine st (OK1.mulI (Has.t rfl) (Has.t rfl) (by rw [hcp]; omega) (by rw [hcp]; omega)) rfl ?_
    refine st (OK1.neI (Has.t rfl) (Has.t rfl)) rfl ?_
    refine st (OK1.as (Has.t rfl)) rfl ?_
    refine nl ?_
    refine At.thn (hK4 _ _ ?_); clear hK4
    refine Tri.cv (Cv.wk (.cons (t := 0) (Has.t rfl) (.cons (t := 4) (Has.t rfl) (.cons (t := 5) (Has.t rfl) (.cons (t := 6) (Has.t rfl) (.cons (t := 7) (Has.t rfl) (.cons (t := 18) (Has.t rfl) .nil))))))) ?_
    refine Tri.cond (Has.t rfl) (fun hc2 => ?_) (fun hc2 => ?_)
    · have hc2 := BP.t hc2
      rw [hcp] at hc2; omega
    · have hc2 := BP.f hc2
      refine Tri.skip ?_
      refine At.bln ?_
      refine At.thn (hK2 _ _ ?_); clear hK2
      refine Tri.seq fun K5 hK5 => ?_
      refine Tri.region ?_
      refine st (OK1.mv (Has.t rfl)) rfl ?_
      refine st (OK1.load1 (Has.t rfl) (i := 2) rfl ty3 rfl) rfl ?_
      refine Ops.cv (Cv.freezeBox (t := 5) (i := 1) rfl rfl rfl) ?_
      refine Ops.memEq (M' := [_, _]) rfl ?_
      refine Ops.cv (Cv.wk (.cons (t := 0) (Has.t rfl) (.cons (t := 4) (Has.t rfl) (.cons (t := 5) (Has.t rfl) (.cons (t := 6) (Has.t rfl) (.cons (t := 7) (Has.t rfl) (.cons (t := 18) (Has.t rfl) (.cons (t := 26) (Has.t rfl) (.cons (t := 27) (Has.t rfl) .nil))))))))) ?_
      refine Ops.cv (Cv.freezeBox (t := 4) (i := 1) rfl rfl rfl) ?_
      refine Ops.memEq (M' := [_]) rfl ?_
      refine Ops.cv (Cv.wk (.cons (t := 0) (Has.t rfl) (.cons (t := 4) (Has.t rfl) (.cons (t := 5) (Has.t rfl) (.cons (t := 6) (Has.t rfl) (.cons (t := 7) (Has.t rfl) (.cons (t := 18) (Has.t rfl) (.cons (t := 26) (Has.t rfl) (.cons (t := 27) (Has.t rfl) .nil))))))))) ?_
      refine st (OK1.makeFn (ι := PI R C) (As := fun p => [isI (p.1.1 : Int), isI (p.1.2 : Int)]) (R := fun p => Flat (zc (nz (cf l (p.1.1 * C + p.1.2))))) (fun p => zmat_Of_1 (by omega) (by rw [hl]; exact place_lt p.2.1 p.2.2)) .nil (.cons (Has.t rfl) (.cons (Has.t rfl) .nil))) rfl ?_
      refine st (OK1.call (zmat_made (f := fun i k => nz (cf l (i * C + k))) hR hC (fun i k _ _ => by rw [val_words]; exact Nat.le_trans (bd64 hb _) (by decide))) (.cons (Has.t rfl) (.cons (Has.t rfl) (.cons (Has.t rfl) .nil)))) rfl ?_
      refine Ops.store (Has.t rfl) (Has.t rfl) (i := 0) rfl ty24 rfl rfl (Ss' := [_, _, _]) rfl (M' := [(some _, cellM [_, _, _])]) rfl ?_
      refine st (OK1.as (Has.cI 0 rfl)) rfl ?_
      refine nl ?_
      refine At.thn (hK5 _ _ ?_); clear hK5
      refine Tri.cv (Cv.wk (.cons (t := 6) (Has.t rfl) (.cons (t := 7) (Has.t rfl) .nil))) ?_
      refine Tri.ret ?_
      refine rtN (.inl rfl) Try.results49 rfl rfl (.cell rfl (i := 0) rfl ty24 rfl ?_ (.tmp (Has.t' rfl ?_) .nil))
      · exact isMz_eq (by rw [zvz fun i k => cf l (i * C + k)])
      · rfl
set_option maxHeartbeats 4000000 in
theorem zmat_At {R C i k : Nat} {xs : List (Bool × List Nat)} {K : Nat} (hx : Bd (vals xs) K) (hK : K ≤ 4000000000) (hR : R ≤ 64) (hC : C ≤ 64) (hl : xs.length = R * C) (hi : i < R) (hk : k < C) : Ctr Try.prog 116 [isM (R : Int) (C : Int) xs, isI (i : Int), isI (k : Int)] (isZ (cf (vals xs) (i * C + k))) := by
  refine Ctr.intro Try.func116 rfl (by kernel_rfl) Try.ntmps116 rfl fun w0 F0 => ?_
  refine Tri.cv (Cv.wk (.cons (t := 0) (Has.t rfl) (.cons (t := 1) (Has.t rfl) (.cons (t := 2) (Has.t rfl) .nil)))) ?_
  refine Tri.fact (Has.rngI (Has.t (t := 1) rfl)) fun lt1 => ?_
  refine Tri.fact (Has.rngI (Has.t (t := 2) rfl)) fun lt2 => ?_
  have hRC := side_le hR hC
  have hpl := place_lt hi hk
  have hfo := formB_true hR hC hl
  have hxr := hx.raw (i * C + k)
  refine Tri.seq fun K1 hK1 => ?_
  refine Tri.region ?_
  refine Ops.box (Has.t rfl) rfl fun b1 => ?_
  refine Ops.alloc [isB false, SlM isU []] zero44 (fun _ _ => ⟨rfl, nilM _ _, trivial⟩) rfl fun b2 => ?_
  refine nl ?_
  refine At.thn (hK1 _ _ ?_); clear hK1
  refine Tri.seq fun K2 hK2 => ?_
  refine Tri.seq fun K3 hK3 => ?_
  refine Tri.region ?_
  refine st (OK1.load (Has.t rfl) (i := 1) rfl ty24 rfl (Ss' := [_, _, _]) rfl) rfl ?_
  refine st (OK1.eq (OK1.call (zmat_Formed) (.cons (Has.t rfl) .nil)) ((show isB _ = isB true from isB_eq hfo))) rfl ?_
  refine st (OK1.not (Has.t rfl)) rfl ?_
  refine st (OK1.mv (Has.t rfl)) rfl ?_
  refine stF rfl rfl (fun hg => have hg' := BP.t hg; OK1.load (Has.t rfl) (i := 1) rfl ty24 rfl (Ss' := [_, _, _]) rfl) rfl ?_
  refine stF rfl rfl (fun hg => have hg' := BP.t hg; OK1.mv (Has.t rfl)) rfl ?_
  refine stF rfl rfl (fun hg => have hg' := BP.t hg; OK1.call (zmat_has) (.cons (Has.g rfl hg) (.cons (Has.g rfl hg) .nil))) rfl ?_
  refine stF rfl rfl (fun hg => have hg' := BP.t hg; OK1.not (Has.g rfl hg)) rfl ?_
  refine st (OK1.pickOr (Has.t rfl) (fun h => Has.g rfl (ng h))) rfl ?_
  refine st (OK1.mv (Has.t rfl)) rfl ?_
  refine stF rfl rfl (fun hg => have hg' := BP.t hg; OK1.mv (Has.t rfl)) rfl ?_
  refine stF rfl rfl (fun hg => have hg' := BP.t hg; OK1.ltI (Has.g rfl hg) (Has.cI 0 rfl)) rfl ?_
  refine st (OK1.pickOr (Has.t rfl) (fun h => Has.g rfl (ng h))) rfl ?_
  refine st (OK1.mv (Has.t rfl)) rfl ?_
  refine stF rfl rfl (fun hg => have hg' := BP.t hg; OK1.mv (Has.t rfl)) rfl ?_
  refine stF rfl rfl (fun hg => have hg' := BP.t hg; OK1.fieldAddr (Has.t rfl) fld24_1 ty3) rfl ?_
  refine stF rfl rfl (fun hg => have hg' := BP.t hg; OK1.load1 (Has.g rfl hg) (i := 1) rfl ty3 rfl) rfl ?_
  refine stF rfl rfl (fun hg => have hg' := BP.t hg; OK1.geI (Has.g rfl hg) (Has.g rfl hg)) rfl ?_
  refine st (OK1.pickOr (Has.t rfl) (fun h => Has.g rfl (ng h))) rfl ?_
  refine nl ?_
  refine At.thn (hK3 _ _ ?_); clear hK3
  refine Tri.cv (Cv.wk (.cons (t := 1) (Has.t rfl) (.cons (t := 2) (Has.t rfl) (.cons (t := 3) (Has.t rfl) (.cons (t := 6) (Has.t rfl) (.cons (t := 26) (Has.t rfl) .nil)))))) ?_
  refine Tri.cond (Has.t rfl) (fun hc1 => ?_) (fun hc1 => ?_)
  · have hc1 := BP.t hc1
    simp at hc1; omega
  · have hc1 := BP.f hc1
    refine Tri.skip ?_
    refine At.thn (hK2 _ _ ?_); clear hK2
    refine Tri.seq fun K4 hK4 => ?_
    refine Tri.region ?_
    refine st (OK1.load (Has.t rfl) (i := 1) rfl ty24 rfl (Ss' := [_, _, _]) rfl) rfl ?_
    refine st (OK1.mv (Has.t rfl)) rfl ?_
    refine st (OK1.mv (Has.t rfl)) rfl ?_
    refine st (OK1.call (zmat_get (i := i) (k := k) (by omega) (by omega)) (.cons (Has.t rfl) (.cons (Has.t rfl) (.cons (Has.t rfl) .nil)))) rfl ?_
    refine Ops.alloc [isB false, SlM isU []] zero44 (fun _ _ => ⟨rfl, nilM _ _, trivial⟩) rfl fun b3 => ?_
    refine Ops.store (Has.t rfl) (Has.t rfl) (i := 0) rfl ty44 rfl rfl (Ss' := [_, _]) rfl (M' := [(some _, cellM [_, _]), _, _]) rfl ?_
    refine nl ?_
    refine At.thn (hK4 _ _ ?_); clear hK4
    refine Tri.cv (Cv.wk (.cons (t := 6) (Has.t rfl) (.cons (t := 7) (Has.t rfl) .nil))) ?_
    refine Tri.seq fun K5 hK5 => ?_
    refine Tri.region ?_
    refine st (OK1.fieldAddr (Has.t rfl) fld44_1 ty42) rfl ?_
    refine st (OK1.load1 (Has.t rfl) (i := 0) rfl ty42 rfl) rfl ?_
    refine st (OK1.fieldAddr (Has.t rfl) fld44_0 ty4) rfl ?_
    refine st (OK1.load1 (Has.t rfl) (i := 0) rfl ty4 rfl) rfl ?_
    refine st (OK1.call (zint_From (by first | omega | assumption)) (.cons (Has.t rfl) (.cons (Has.t rfl) .nil))) rfl ?_
    refine Ops.store (Has.t rfl) (Has.t rfl) (i := 1) rfl ty44 rfl rfl (Ss' := [_, _]) rfl (M' := [_, (some _, cellM [_, _]), _]) rfl ?_
    refine nl ?_
    refine At.thn (hK5 _ _ ?_); clear hK5
    refine Tri.cv (Cv.wk (.cons (t := 6) (Has.t rfl) .nil)) ?_
    refine Tri.ret ?_
    refine rt1 (.inl rfl) Try.results116 rfl (.cell rfl (i := 1) rfl ty44 rfl ?_ .nil)
    all_goals (exact isZ_eq (by rw [cf_vals]))
set_option maxHeartbeats 4000000 in
theorem zmat_Mul_1 {R C D i k K L : Nat} {xs ys : List (Bool × List Nat)} (hx : Bd (vals xs) K) (hy : Bd (vals ys) L) (hK : K + L ≤ 400000000) (hC : C ≤ 64) (hxl : xs.length = R * C) (hyl : ys.length = C * D) (hxm : xs.length ≤ 4096) (hym : ys.length ≤ 4096) (hi : i < R) (hk : k < D) : Ctr Try.prog 109 [isI (i : Int), isI (k : Int), ptM (R : Int) (C : Int) xs, ptM (C : Int) (D : Int) ys] (isZ (dotS (fun j => cf (vals xs) (i * C + j)) (fun j => cf (vals ys) (j * D + k)) C)) := by
  refine Ctr.intro Try.func109 rfl (by kernel_rfl) Try.ntmps109 rfl fun w0 F0 => ?_
  refine Tri.cv (Cv.wk (.cons (t := 0) (Has.t rfl) (.cons (t := 1) (Has.t rfl) (.cons (t := 2) (Has.t rfl) (.cons (t := 3) (Has.t rfl) .nil))))) ?_
  refine Tri.fact (Has.rngI (Has.t (t := 0) rfl)) fun lt0 => ?_
  refine Tri.fact (Has.rngI (Has.t (t := 1) rfl)) fun lt1 => ?_
  obtain ⟨f, hf⟩ : ∃ f : Nat → Int, f = fun j => cf (vals xs) (i * C + j) := ⟨_, rfl⟩
  obtain ⟨g, hg⟩ : ∃ g : Nat → Int, g = fun j => cf (vals ys) (j * D + k) := ⟨_, rfl⟩
  rw [← hf, ← hg]
  refine Tri.seq fun K1 hK1 => ?_
  refine Tri.region ?_
  refine Ops.alloc [isB false, SlM isU []] zero44 (fun _ _ => ⟨rfl, nilM _ _, trivial⟩) rfl fun b1 => ?_
  refine nl ?_
  refine At.thn (hK1 _ _ ?_); clear hK1
  refine Tri.seq fun K2 hK2 => ?_
  refine Tri.region ?_
  refine Ops.alloc [isB false, SlM isU []] zero44 (fun _ _ => ⟨rfl, nilM _ _, trivial⟩) rfl fun b2 => ?_
  refine nl ?_
  refine At.thn (hK2 _ _ ?_); clear hK2
  refine Tri.seq fun K3 hK3 => ?_
  refine Tri.seq fun K4 hK4 => ?_
  refine Tri.region ?_
  refine st (OK1.fieldAddrP (Has.t rfl) fld24_1 ty3 (Ss' := [_, _]) rfl) rfl ?_
  refine st (OK1.loadP1 (Has.t rfl) ty3) rfl ?_
  refine st (OK1.mv (Has.cI 0 rfl)) rfl ?_
  refine nl ?_
  refine At.thn (hK4 _ _ ?_); clear hK4
  refine Tri.block ?_
  refine Tri.loopF [0, 1, 2, 3, 6, 7, 10] (fun (z : { j : Nat // j ≤ C }) => match z with | ⟨j, hj⟩ => [(11, isI (j : Int))]) (fun M => fun (z : { j : Nat // j ≤ C }) => match z with | ⟨j, hj⟩ => [zM b2 (dotS f g j), (some b1, cellM [isB false, SlM isU []])]) (fun (z : { j : Nat // j ≤ C }) => match z with | ⟨j, hj⟩ => C - j) (⟨0, Nat.zero_le _⟩) (Cv.mem (.cons (t := 11) (Has.t' rfl ?_) (.cons (t := 0) (Has.t rfl) (.cons (t := 1) (Has.t rfl) (.cons (t := 2) (Has.t rfl) (.cons (t := 3) (Has.t rfl) (.cons (t := 6) (Has.t rfl) (.cons (t := 7) (Has.t rfl) (.cons (t := 10) (Has.t rfl) .nil)))))))) ?_) ?_
  · rfl
  · exact zM0
  rintro ⟨j, hj⟩ K5 hK5
  refine Tri.cv (Cv.wk (.cons (t := 11) (Has.t rfl) (.cons (t := 0) (Has.t rfl) (.cons (t := 1) (Has.t rfl) (.cons (t := 2) (Has.t rfl) (.cons (t := 3) (Has.t rfl) (.cons (t := 6) (Has.t rfl) (.cons (t := 7) (Has.t rfl) (.cons (t := 10) (Has.t rfl) .nil))))))))) ?_
  refine Tri.memEq (M' := [zM b2 (dotS f g j), (some b1, cellM [isB false, SlM isU []])]) rfl ?_
  have hds := dotS_nw (f := f) (g := g) (K := K) (L := L) (fun j => by rw [hf]; exact hx _) (fun j => by rw [hg]; exact hy _) j
  refine Tri.seq fun K6 hK6 => ?_
  refine Tri.region ?_
  refine st (OK1.ltI (Has.t rfl) (Has.t rfl)) rfl ?_
  refine nl ?_
  refine At.thn (hK6 _ _ ?_); clear hK6
  refine Tri.seq fun K7 hK7 => ?_
  refine Tri.cond (Has.t rfl) (fun hc1 => ?_) (fun hc1 => ?_)
  · have hc1 := BP.t hc1
    have hj2 : j < C := (by omega)
    have hp1 := place_lt hi hj2
    have hp2 := place_lt hj2 hk
    have hxr := hx.raw (i * C + j)
    have hyr := hy.raw (j * D + k)
    have hfj : f j = cf (vals xs) (i * C + j) := by rw [hf]
    have hgj : g j = cf (vals ys) (j * D + k) := by rw [hg]
    have hfk := hx (i * C + j)
    have hgk := hy (j * D + k)
    have hmm := nz_mul (f j) (g j)
    rw [← hfj] at hfk
    rw [← hgj] at hgk
    refine Tri.skip ?_
    refine At.thn (hK7 _ _ ?_); clear hK7
    refine Tri.seq fun K8 hK8 => ?_
    refine Tri.block ?_
    refine Tri.seq fun K9 hK9 => ?_
    refine Tri.region ?_
    refine st (OK1.mv (Has.t rfl)) rfl ?_
    refine st (OK1.as (Has.t rfl)) rfl ?_
    refine nl ?_
    refine At.thn (hK9 _ _ ?_); clear hK9
    refine Tri.dr ?_
    refine DrG.st (i := 0) [] rfl rfl rfl (by kernel_rfl) (OKG.o rfl (OK1.load (Has.t rfl) (i := 0) rfl ty44 rfl (Ss' := [_, _]) rfl)) ?_
    refine DrG.st (i := 1) [] rfl rfl rfl (by kernel_rfl) (OKG.o rfl (OK1.loadP (Has.t rfl) ty24 rfl (Ss' := [_, _, _]) rfl)) ?_
    refine DrG.st (i := 2) [] rfl rfl rfl (by kernel_rfl) (OKG.o rfl (OK1.mv (Has.t rfl))) ?_
    refine DrG.st (i := 3) [] rfl rfl rfl (by kernel_rfl) (OKG.o rfl (OK1.mv (Has.t rfl))) ?_
    refine DrG.st (i := 4) [15, 16, 17] rfl rfl rfl (by kernel_rfl) (OKG.o rfl (OK1.call (zmat_get (i := i) (k := j) hxm (by omega)) (.cons (Has.t rfl) (.cons (Has.t rfl) (.cons (Has.t rfl) .nil))))) ?_
    refine DrG.st (i := 5) [] rfl rfl rfl (by kernel_rfl) (OKG.o rfl (OK1.loadP (Has.t rfl) ty24 rfl (Ss' := [_, _, _]) rfl)) ?_
    refine DrG.st (i := 6) [] rfl rfl rfl (by kernel_rfl) (OKG.o rfl (OK1.mv (Has.t rfl))) ?_
    refine DrG.st (i := 7) [] rfl rfl rfl (by kernel_rfl) (OKG.o rfl (OK1.mv (Has.t rfl))) ?_
    refine DrG.st (i := 8) [19, 20, 21] rfl rfl rfl (by kernel_rfl) (OKG.o rfl (OK1.call (zmat_get (i := j) (k := k) hym (by omega)) (.cons (Has.t rfl) (.cons (Has.t rfl) (.cons (Has.t rfl) .nil))))) ?_
    refine DrG.st (i := 9) [18, 22] rfl rfl rfl (by kernel_rfl) (OKG.o rfl (OK1.eq (OK1.call (zint_Mul (by omega) (by omega)) (.cons (Has.t rfl) (.cons (Has.t rfl) .nil))) ((show isZ _ = isZ (f j * g j) from isZ_eq (by rw [hfj, hgj, cf_vals, cf_vals]))))) ?_
    refine DrG.fin (n := 10) mixed (by kernel_rfl) (by kernel_rfl) (by kernel_rfl) ?_
    refine Ops.cv (Cv.wk (.cons (t := 0) (Has.t rfl) (.cons (t := 1) (Has.t rfl) (.cons (t := 2) (Has.t rfl) (.cons (t := 3) (Has.t rfl) (.cons (t := 6) (Has.t rfl) (.cons (t := 7) (Has.t rfl) (.cons (t := 10) (Has.t rfl) (.cons (t := 11) (Has.t rfl) (.cons (t := 12) (Has.t rfl) (.cons (t := 13) (Has.t rfl) (.cons (t := 8) (Has.t rfl) (.cons (t := 14) (Has.t rfl) (.cons (t := 15) (Has.t rfl) (.cons (t := 16) (Has.t rfl) (.cons (t := 17) (Has.t rfl) (.cons (t := 18) (Has.t rfl) (.cons (t := 19) (Has.t rfl) (.cons (t := 20) (Has.t rfl) (.cons (t := 21) (Has.t rfl) (.cons (t := 22) (Has.t rfl) (.cons (t := 23) (Has.t rfl) .nil)))))))))))))))))))))) ?_
    refine st (OK1.eq (OK1.call (zint_Add (by rw [val_words]; omega) (by rw [val_words]; omega)) (.cons (Has.t rfl) (.cons (Has.t rfl) .nil))) ((show isZ _ = isZ (dotS f g j + f j * g j) from isZ_eq (by simp only [zv_nf])))) rfl ?_
    refine Ops.store (Has.t rfl) (Has.t rfl) (i := 0) rfl ty44 rfl rfl (Ss' := [_, _]) rfl (M' := [(some _, cellM [_, _]), _]) rfl ?_
    refine nl ?_
    refine At.bln ?_
    refine At.thn (hK8 _ _ ?_); clear hK8
    refine Tri.region ?_
    refine st (OK1.addI (Has.t rfl) (Has.cI 1 rfl) (by first | omega | assumption) (by first | omega | assumption)) rfl ?_
    refine st (OK1.mv (Has.t rfl)) rfl ?_
    refine nl ?_
    refine At.thn ?_
    refine hK5 (⟨j + 1, by omega⟩) _ _ ?_ (Cv.mem (.cons (t := 11) (Has.t' rfl ?_) (.cons (t := 0) (Has.t rfl) (.cons (t := 1) (Has.t rfl) (.cons (t := 2) (Has.t rfl) (.cons (t := 3) (Has.t rfl) (.cons (t := 6) (Has.t rfl) (.cons (t := 7) (Has.t rfl) (.cons (t := 10) (Has.t rfl) .nil)))))))) ?_)
    · show C - (j + 1) < C - j; omega
    · exact isI_eq (by omega)
    · rfl
  · have hc1 := BP.f hc1
    refine Tri.exit ?_
    refine At.the ?_
    refine At.the ?_
    refine At.blh ?_
    refine At.thn (hK3 _ _ ?_); clear hK3
    refine Tri.cv (Cv.wk (.cons (t := 6) (Has.t rfl) (.cons (t := 7) (Has.t rfl) .nil))) ?_
    refine Tri.seq fun K10 hK10 => ?_
    refine Tri.region ?_
    refine st (OK1.load (Has.t rfl) (i := 0) rfl ty44 rfl (Ss' := [_, _]) rfl) rfl ?_
    refine Ops.store (Has.t rfl) (Has.t rfl) (i := 1) rfl ty44 rfl rfl (Ss' := [_, _]) rfl (M' := [_, (some _, cellM [_, _])]) rfl ?_
    refine nl ?_
    refine At.thn (hK10 _ _ ?_); clear hK10
    refine Tri.ret ?_
    refine rt1 (.inl rfl) Try.results109 rfl (.cell rfl (i := 1) rfl ty44 rfl ?_ .nil)
    all_goals (exact isZ_eq (by rw [show j = C by omega]))
set_option maxHeartbeats 4000000 in
theorem zmat_Mul {R C D K L : Nat} {xs ys : List (Bool × List Nat)} (hx : Bd (vals xs) K) (hy : Bd (vals ys) L) (hK : K + L ≤ 400000000) (hR : R ≤ 64) (hC : C ≤ 64) (hD : D ≤ 64) (hxl : xs.length = R * C) (hyl : ys.length = C * D) : Ctr Try.prog 57 [isM (R : Int) (C : Int) xs, isM (C : Int) (D : Int) ys] (isTup [isMz R D (tab (R * D) D fun i k => dotS (fun j => cf (vals xs) (i * C + j)) (fun j => cf (vals ys) (j * D + k)) C), isI 0]) := by
  refine Ctr.intro Try.func57 rfl (by kernel_rfl) Try.ntmps57 rfl fun w0 F0 => ?_
  refine Tri.cv (Cv.wk (.cons (t := 0) (Has.t rfl) (.cons (t := 1) (Has.t rfl) .nil))) ?_
  have h1 := side_le hR hC
  have h2 := side_le hC hD
  have hf1 := formB_true hR hC hxl
  have hf2 := formB_true hC hD hyl
  refine Tri.seq fun K1 hK1 => ?_
  refine Tri.region ?_
  refine Ops.box (Has.t rfl) rfl fun b1 => ?_
  refine Ops.box (Has.t rfl) rfl fun b2 => ?_
  refine Ops.alloc [isI 0, isI 0, nilS] zero24 (fun _ _ => ⟨⟨rfl, by decide, by decide⟩, ⟨rfl, by decide, by decide⟩, rfl, trivial⟩) rfl fun b3 => ?_
  refine st (OK1.as (Has.cI 0 rfl)) rfl ?_
  refine nl ?_
  refine At.thn (hK1 _ _ ?_); clear hK1
  refine Tri.seq fun K2 hK2 => ?_
  refine Tri.seq fun K3 hK3 => ?_
  refine Tri.region ?_
  refine st (OK1.load (Has.t rfl) (i := 2) rfl ty24 rfl (Ss' := [_, _, _]) rfl) rfl ?_
  refine st (OK1.eq (OK1.call (zmat_Formed) (.cons (Has.t rfl) .nil)) ((show isB _ = isB true from isB_eq hf1))) rfl ?_
  refine st (OK1.not (Has.t rfl)) rfl ?_
  refine st (OK1.mv (Has.t rfl)) rfl ?_
  refine stF rfl rfl (fun hg => have hg' := BP.t hg; OK1.load (Has.t rfl) (i := 1) rfl ty24 rfl (Ss' := [_, _, _]) rfl) rfl ?_
  refine stF rfl rfl (fun hg => have hg' := BP.t hg; OK1.eq (OK1.call (zmat_Formed) (.cons (Has.g rfl hg) .nil)) ((show isB _ = isB true from isB_eq hf2))) rfl ?_
  refine stF rfl rfl (fun hg => have hg' := BP.t hg; OK1.not (Has.g rfl hg)) rfl ?_
  refine st (OK1.pickOr (Has.t rfl) (fun h => Has.g rfl (ng h))) rfl ?_
  refine st (OK1.mv (Has.t rfl)) rfl ?_
  refine stF rfl rfl (fun hg => have hg' := BP.t hg; OK1.fieldAddr (Has.t rfl) fld24_1 ty3) rfl ?_
  refine stF rfl rfl (fun hg => have hg' := BP.t hg; OK1.load1 (Has.g rfl hg) (i := 2) rfl ty3 rfl) rfl ?_
  refine stF rfl rfl (fun hg => have hg' := BP.t hg; OK1.fieldAddr (Has.t rfl) fld24_0 ty3) rfl ?_
  refine stF rfl rfl (fun hg => have hg' := BP.t hg; OK1.load1 (Has.g rfl hg) (i := 1) rfl ty3 rfl) rfl ?_
  refine stF rfl rfl (fun hg => have hg' := BP.t hg; OK1.neI (Has.g rfl hg) (Has.g rfl hg)) rfl ?_
  refine st (OK1.pickOr (Has.t rfl) (fun h => Has.g rfl (ng h))) rfl ?_
  refine nl ?_
  refine At.thn (hK3 _ _ ?_); clear hK3
  refine Tri.cv (Cv.wk (.cons (t := 2) (Has.t rfl) (.cons (t := 3) (Has.t rfl) (.cons (t := 4) (Has.t rfl) (.cons (t := 5) (Has.t rfl) (.cons (t := 20) (Has.t rfl) .nil)))))) ?_
  refine Tri.cond (Has.t rfl) (fun hc1 => ?_) (fun hc1 => ?_)
  · have hc1 := BP.t hc1
    simp at hc1
  · have hc1 := BP.f hc1
    refine Tri.skip ?_
    refine At.thn (hK2 _ _ ?_); clear hK2
    refine Tri.seq fun K4 hK4 => ?_
    refine Tri.region ?_
    refine st (OK1.fieldAddr (Has.t rfl) fld24_0 ty3) rfl ?_
    refine st (OK1.load1 (Has.t rfl) (i := 2) rfl ty3 rfl) rfl ?_
    refine st (OK1.fieldAddr (Has.t rfl) fld24_1 ty3) rfl ?_
    refine st (OK1.load1 (Has.t rfl) (i := 1) rfl ty3 rfl) rfl ?_
    refine Ops.cv (Cv.freezeBox (t := 2) (i := 2) rfl rfl rfl) ?_
    refine Ops.memEq (M' := [_, _]) rfl ?_
    refine Ops.cv (Cv.wk (.cons (t := 2) (Has.t rfl) (.cons (t := 3) (Has.t rfl) (.cons (t := 4) (Has.t rfl) (.cons (t := 5) (Has.t rfl) (.cons (t := 20) (Has.t rfl) (.cons (t := 23) (Has.t rfl) (.cons (t := 24) (Has.t rfl) (.cons (t := 25) (Has.t rfl) .nil))))))))) ?_
    refine Ops.cv (Cv.freezeBox (t := 3) (i := 1) rfl rfl rfl) ?_
    refine Ops.memEq (M' := [_]) rfl ?_
    refine Ops.cv (Cv.wk (.cons (t := 2) (Has.t rfl) (.cons (t := 3) (Has.t rfl) (.cons (t := 4) (Has.t rfl) (.cons (t := 5) (Has.t rfl) (.cons (t := 20) (Has.t rfl) (.cons (t := 23) (Has.t rfl) (.cons (t := 25) (Has.t rfl) .nil)))))))) ?_
    refine st (OK1.makeFn (ι := PI R D) (As := fun p => [isI (p.1.1 : Int), isI (p.1.2 : Int)]) (R := fun p => Flat (zc (nz (dotS (fun j => cf (vals xs) (p.1.1 * C + j)) (fun j => cf (vals ys) (j * D + p.1.2)) C)))) (fun p => zmat_Mul_1 hx hy hK hC hxl hyl (by omega) (by omega) p.2.1 p.2.2) .nil (.cons (Has.t rfl) (.cons (Has.t rfl) .nil))) rfl ?_
    refine st (OK1.call (zmat_made (f := fun i k => nz (dotS (fun j => cf (vals xs) (i * C + j)) (fun j => cf (vals ys) (j * D + k)) C)) hR hD (fun i k _ _ => by rw [val_words]; have := dotS_nw (f := fun j => cf (vals xs) (i * C + j)) (g := fun j => cf (vals ys) (j * D + k)) (fun j => hx _) (fun j => hy _) C; omega)) (.cons (Has.t rfl) (.cons (Has.t rfl) (.cons (Has.t rfl) .nil)))) rfl ?_
    refine Ops.store (Has.t rfl) (Has.t rfl) (i := 0) rfl ty24 rfl rfl (Ss' := [_, _, _]) rfl (M' := [(some _, cellM [_, _, _])]) rfl ?_
    refine st (OK1.as (Has.cI 0 rfl)) rfl ?_
    refine nl ?_
    refine At.thn (hK4 _ _ ?_); clear hK4
    refine Tri.cv (Cv.wk (.cons (t := 4) (Has.t rfl) (.cons (t := 5) (Has.t rfl) .nil))) ?_
    refine Tri.ret ?_
    refine rtN (.inl rfl) Try.results57 rfl rfl (.cell rfl (i := 0) rfl ty24 rfl ?_ (.tmp (Has.t' rfl ?_) .nil))
    · exact isMz_eq (by rw [zvz fun i k => dotS (fun j => cf (vals xs) (i * C + j)) (fun j => cf (vals ys) (j * D + k)) C])
    · rfl
end Go.Proofs.Ytgkbekcpmbjbdaa
/- Determinants by their first rows. No program here. -/
namespace Go.Dt
abbrev MatF : Type := Nat → Nat → Int
/-- the sum of the first n numbers -/
def sm : Nat → (Nat → Int) → Int
  | 0, _ => 0
  | n + 1, f => sm n f + f n
theorem sm_congr {f g : Nat → Int} : ∀ {n : Nat}, (∀ i, i < n → f i = g i) → sm n f = sm n g
  | 0, _ => rfl
  | n + 1, h => by
    show sm n f + f n = sm n g + g n
    rw [sm_congr (n := n) fun i hi => h i (by omega), h n (by omega)]
theorem sm_zero {f : Nat → Int} {n : Nat} (h : ∀ i, i < n → f i = 0) : sm n f = 0 := by
  have e : sm n f = sm n (fun _ => 0) := sm_congr h
  rw [e]
  induction n with
  | zero => rfl
  | succ n ih => show sm n _ + 0 = 0; rw [ih (fun i hi => h i (by omega)) (sm_congr fun i hi => h i (by omega))]; rfl
theorem sm_lin (x y : Int) (f g : Nat → Int) : ∀ n : Nat, sm n (fun i => x * f i + y * g i) = x * sm n f + y * sm n g
  | 0 => by show (0 : Int) = x * 0 + y * 0; omega
  | n + 1 => by
    show sm n _ + (x * f n + y * g n) = x * (sm n f + f n) + y * (sm n g + g n)
    rw [sm_lin x y f g n, Int.mul_add, Int.mul_add]; omega
theorem sm_smul (x : Int) (f : Nat → Int) (n : Nat) : sm n (fun i => x * f i) = x * sm n f := by
  have h := sm_lin x 0 f f n
  rw [Int.zero_mul, Int.add_zero] at h
  rw [← h]
  exact sm_congr fun i _ => by rw [Int.zero_mul, Int.add_zero]
theorem sm_add (f g : Nat → Int) (n : Nat) : sm n (fun i => f i + g i) = sm n f + sm n g := by
  have h := sm_lin 1 1 f g n
  rw [Int.one_mul, Int.one_mul] at h
  rw [← h]
  exact sm_congr fun i _ => by rw [Int.one_mul, Int.one_mul]
theorem sm_one {f : Nat → Int} {n c : Nat} (hc : c < n) (h : ∀ i, i < n → i ≠ c → f i = 0) : sm n f = f c := by
  induction n with
  | zero => omega
  | succ n ih =>
    show sm n f + f n = f c
    by_cases e : c = n
    · subst e
      rw [sm_zero fun i hi => h i (by omega) (by omega)]; omega
    · rw [ih (by omega) fun i hi => h i (by omega), h n (by omega) (by omega)]; omega
theorem sm_two {f : Nat → Int} {n c : Nat} (hc : c + 1 < n) (h2 : f c + f (c + 1) = 0) (h : ∀ i, i < n → i ≠ c → i ≠ c + 1 → f i = 0) : sm n f = 0 := by
  induction n with
  | zero => omega
  | succ n ih =>
    show sm n f + f n = 0
    by_cases e : c + 1 = n
    · subst e
      rw [sm_one (c := c) (by omega) fun i hi hne => h i (by omega) hne (by omega)]; exact h2
    · rw [ih (by omega) fun i hi => h i (by omega), h n (by omega) (by omega) (by omega)]; rfl
theorem sm_swap (f : Nat → Nat → Int) (m : Nat) : ∀ n : Nat, sm n (fun i => sm m fun j => f i j) = sm m (fun j => sm n fun i => f i j)
  | 0 => (sm_zero fun _ _ => rfl).symm
  | n + 1 => by
    show sm n _ + sm m _ = sm m fun j => sm n (fun i => f i j) + f n j
    rw [sm_swap f m n, ← sm_add]
/-- 1 and -1, turn by turn -/
def sg (k : Nat) : Int := if k % 2 = 1 then -1 else 1
theorem sg_succ (k : Nat) : sg (k + 1) = - sg k := by
  unfold sg
  rcases Nat.mod_two_eq_zero_or_one k with h | h
  · rw [if_pos (by omega), if_neg (by omega)]
  · rw [if_neg (by omega), if_pos h]; rfl
/-- all numbers but k, in a row -/
def skip (k j : Nat) : Nat := if j < k then j else j + 1
def unskip (k j : Nat) : Nat := if j < k then j else j - 1
theorem skip_ne (k j : Nat) : skip k j ≠ k := by unfold skip; split <;> omega
theorem unskip_skip (k j : Nat) : unskip k (skip k j) = j := by unfold unskip skip; (repeat' split) <;> omega
theorem skip_unskip {k j : Nat} (h : j ≠ k) : skip k (unskip k j) = j := by unfold unskip skip; (repeat' split) <;> omega
theorem skip_lt {k j n : Nat} (h : j < n) : skip k j < n + 1 := by unfold skip; split <;> omega
theorem unskip_lt {k j n : Nat} (h : j < n + 1) (hk : k < n + 1) (hne : j ≠ k) : unskip k j < n := by unfold unskip; split <;> omega
theorem skip_eq {k j c : Nat} (h : c ≠ k) : skip k j = c ↔ j = unskip k c := ⟨fun e => by rw [← e, unskip_skip], fun e => by rw [e, skip_unskip h]⟩
/-- the determinant by its first row -/
def det : Nat → MatF → Int
  | 0, _ => 1
  | n + 1, A => sm (n + 1) fun k => sg k * (A 0 k * det n fun i j => A (i + 1) (skip k j))
theorem det_succ (n : Nat) (A : MatF) : det (n + 1) A = sm (n + 1) fun k => sg k * (A 0 k * det n fun i j => A (i + 1) (skip k j)) := rfl
theorem det_congr : ∀ {n : Nat} {A B : MatF}, (∀ i j, i < n → j < n → A i j = B i j) → det n A = det n B
  | 0, _, _, _ => rfl
  | n + 1, A, B, h => sm_congr fun k hk => by
    rw [h 0 k (by omega) hk, det_congr (n := n) fun i j hi hj => h (i + 1) (skip k j) (by omega) (skip_lt hj)]
def setc (A : MatF) (c : Nat) (v : Nat → Int) : MatF := fun i j => if j = c then v i else A i j
def setr (A : MatF) (r : Nat) (v : Nat → Int) : MatF := fun i j => if i = r then v j else A i j
theorem setc_min (A : MatF) (c : Nat) (v : Nat → Int) {k : Nat} (h : c ≠ k) : (fun i j => setc A c v (i + 1) (skip k j)) = setc (fun i j => A (i + 1) (skip k j)) (unskip k c) (fun i => v (i + 1)) := by
  funext i j
  unfold setc
  by_cases e : j = unskip k c
  · rw [if_pos e, if_pos ((skip_eq h).2 e)]
  · rw [if_neg e, if_neg fun e2 => e ((skip_eq h).1 e2)]
theorem setc_off (A : MatF) (k : Nat) (v : Nat → Int) : (fun i j => setc A k v (i + 1) (skip k j)) = fun i j => A (i + 1) (skip k j) := by
  funext i j
  exact if_neg (skip_ne k j)
theorem det_col (x y : Int) (u v : Nat → Int) : ∀ {n : Nat} (A : MatF) (c : Nat), c < n → det n (setc A c fun i => x * u i + y * v i) = x * det n (setc A c u) + y * det n (setc A c v)
  | 0, _, _, h => by omega
  | n + 1, A, c, h => by
    rw [det_succ, det_succ, det_succ, ← sm_lin]
    refine sm_congr fun k hk => ?_
    by_cases e : k = c
    · subst e
      rw [setc_off, setc_off, setc_off]
      have h1 : ∀ w : Nat → Int, setc A k w 0 k = w 0 := fun w => if_pos rfl
      rw [h1, h1, h1]
      generalize det n (fun i j => A (i + 1) (skip k j)) = d
      generalize sg k = s
      rw [Int.add_mul, Int.mul_add, Int.mul_assoc, Int.mul_assoc, Int.mul_left_comm s x, Int.mul_left_comm s y]
    · have hc : c ≠ k := fun e2 => e e2.symm
      rw [setc_min _ _ _ hc, setc_min _ _ _ hc, setc_min _ _ _ hc, det_col x y _ _ _ _ (unskip_lt h hk hc)]
      have h1 : ∀ w : Nat → Int, setc A c w 0 k = A 0 k := fun w => if_neg e
      rw [h1, h1, h1]
      generalize sg k = s
      generalize A 0 k = a
      rw [Int.mul_add, Int.mul_add, Int.mul_left_comm a x, Int.mul_left_comm a y, Int.mul_left_comm s x, Int.mul_left_comm s y]
theorem det_cols_eq : ∀ {n : Nat} (A : MatF) (c : Nat), c + 1 < n → (∀ i, i < n → A i c = A i (c + 1)) → det n A = 0
  | 0, _, _, h, _ => by omega
  | n + 1, A, c, h, hA => by
    rw [det_succ]
    refine sm_two h ?_ fun k hk h1 h2 => ?_
    · rw [← hA 0 (by omega), sg_succ]
      have e : det n (fun i j => A (i + 1) (skip c j)) = det n (fun i j => A (i + 1) (skip (c + 1) j)) := det_congr fun i j hi hj => by
        unfold skip
        by_cases e1 : j < c
        · rw [if_pos e1, if_pos (by omega)]
        · rw [if_neg e1]
          by_cases e2 : j < c + 1
          · rw [if_pos e2]
            obtain rfl : j = c := by omega
            exact (hA (i + 1) (by omega)).symm
          · rw [if_neg e2]
      rw [e, Int.neg_mul]; omega
    · have hu : unskip k (c + 1) = unskip k c + 1 := by unfold unskip; split <;> split <;> omega
      rw [det_cols_eq (n := n) _ (unskip k c) (by have := unskip_lt h hk (fun e => h2 e.symm); omega) fun i hi => ?_, Int.mul_zero, Int.mul_zero]
      rw [← hu, skip_unskip (fun e => h1 e.symm), skip_unskip (fun e => h2 e.symm)]
      exact hA (i + 1) (by omega)
def one : MatF := fun i j => if i = j then 1 else 0
theorem det_one : ∀ n : Nat, det n one = 1
  | 0 => rfl
  | n + 1 => by
    rw [det_succ, sm_one (c := 0) (by omega) fun k hk hne => ?_]
    · have e : det n (fun i j => one (i + 1) (skip 0 j)) = det n one := det_congr fun i j _ _ => by
        unfold one skip
        repeat' split
        all_goals omega
      rw [e, det_one n]; rfl
    · have e : one 0 k = 0 := if_neg (by omega)
      rw [e, Int.zero_mul, Int.mul_zero]
/-- what is linear in each row, and 0 where two rows that stand beside each other are the same -/
structure RowF (n : Nat) (F : MatF → Int) : Prop where
  congr : ∀ {A B : MatF}, (∀ i j, i < n → j < n → A i j = B i j) → F A = F B
  lin : ∀ (A : MatF) (r : Nat) (x y : Int) (u v : Nat → Int), r < n → F (setr A r fun j => x * u j + y * v j) = x * F (setr A r u) + y * F (setr A r v)
  alt : ∀ (A : MatF) (r : Nat), r + 1 < n → (∀ j, j < n → A r j = A (r + 1) j) → F A = 0
namespace RowF
variable {n : Nat} {F : MatF → Int}
theorem set_self (A : MatF) (r : Nat) : setr A r (A r) = A := by
  funext i j; unfold setr; split
  · rename_i e; rw [e]
  · rfl
theorem set_set (A : MatF) (r : Nat) (u v : Nat → Int) : setr (setr A r u) r v = setr A r v := by
  funext i j; unfold setr; split <;> rfl
theorem set_comm (A : MatF) {r s : Nat} (h : r ≠ s) (u v : Nat → Int) : setr (setr A r u) s v = setr (setr A s v) r u := by
  funext i j; unfold setr
  by_cases e1 : i = s
  · rw [if_pos e1, if_neg (by omega), if_pos e1]
  · rw [if_neg e1, if_neg e1]
theorem set_at (A : MatF) (r : Nat) (u : Nat → Int) : setr A r u r = u := by funext j; exact if_pos rfl
theorem set_ne (A : MatF) {r s : Nat} (h : s ≠ r) (u : Nat → Int) : setr A r u s = A s := by funext j; exact if_neg h
theorem zero (h : RowF n F) {A : MatF} {r : Nat} (hr : r < n) (hz : ∀ j, j < n → A r j = 0) : F A = 0 := by
  have e : F A = F (setr A r fun j => 0 * A r j + 0 * A r j) := h.congr fun i j _ hj => by
    unfold setr; split
    · rename_i e; show _ = 0 * A r j + 0 * A r j; rw [e, hz j hj]; rfl
    · rfl
  rw [e, h.lin A r 0 0 _ _ hr]; omega
theorem add (h : RowF n F) (A : MatF) {r : Nat} (hr : r < n) (u v : Nat → Int) : F (setr A r fun j => u j + v j) = F (setr A r u) + F (setr A r v) := by
  have e := h.lin A r 1 1 u v hr
  rw [Int.one_mul, Int.one_mul] at e
  rw [← e]
  congr 2; funext j; omega
theorem smul (h : RowF n F) (A : MatF) {r : Nat} (hr : r < n) (x : Int) (u : Nat → Int) : F (setr A r fun j => x * u j) = x * F (setr A r u) := by
  have e := h.lin A r x 0 u u hr
  rw [Int.zero_mul, Int.add_zero] at e
  rw [← e]
  congr 2; funext j; omega
theorem sum (h : RowF n F) (A : MatF) {r : Nat} (hr : r < n) (c : Nat → Int) (u : Nat → Nat → Int) : ∀ m : Nat, F (setr A r fun j => sm m fun k => c k * u k j) = sm m fun k => c k * F (setr A r (u k))
  | 0 => h.zero (A := setr A r _) hr fun j _ => by rw [set_at]; rfl
  | m + 1 => by
    show F (setr A r fun j => sm m (fun k => c k * u k j) + c m * u m j) = _
    rw [h.add A hr, sum h A hr c u m, h.smul A hr]; rfl
theorem two (h : RowF n F) (A : MatF) {r s : Nat} (hr : r < n) (hs : s < n) (hne : r ≠ s) (heq : ∀ u : Nat → Int, F (setr (setr A r u) s u) = 0) (u v : Nat → Int) : F (setr (setr A r u) s v) = - F (setr (setr A r v) s u) := by
  have e := heq fun j => u j + v j
  rw [h.add _ hs, set_comm _ hne, set_comm _ hne, h.add _ hr, h.add _ hr, ← set_comm _ hne, ← set_comm _ hne, ← set_comm _ hne, ← set_comm _ hne, heq u, heq v] at e
  omega
theorem swap1 (h : RowF n F) (A : MatF) {r : Nat} (hr : r + 1 < n) (u v : Nat → Int) : F (setr (setr A r u) (r + 1) v) = - F (setr (setr A r v) (r + 1) u) :=
  h.two A (by omega) hr (by omega) (fun u => h.alt _ r hr fun j _ => by rw [set_at, set_ne _ (by omega), set_at]) u v
theorem same (h : RowF n F) : ∀ (d : Nat) (A : MatF) (r : Nat), r + 1 + d < n → (∀ j, j < n → A r j = A (r + 1 + d) j) → F A = 0
  | 0, A, r, hr, hA => h.alt A r hr hA
  | d + 1, A, r, hr, hA => by
    have e : A = setr (setr A (r + 1 + d) (A (r + 1 + d))) (r + 1 + d + 1) (A (r + 1 + d + 1)) := by rw [set_self, set_self]
    rw [e, h.swap1 A (by omega), same h d _ r (by omega) fun j hj => ?_]
    · rfl
    · rw [set_ne _ (by omega), set_ne _ (by omega), set_ne _ (by omega), set_at, hA j hj]; rfl
theorem eqr (h : RowF n F) {A : MatF} {r s : Nat} (hr : r < n) (hs : s < n) (hne : r ≠ s) (hA : ∀ j, j < n → A r j = A s j) : F A = 0 := by
  rcases Nat.lt_or_gt_of_ne hne with hl | hl
  · obtain ⟨d, rfl⟩ : ∃ d, s = r + 1 + d := ⟨s - r - 1, by omega⟩
    exact h.same d A r hs hA
  · obtain ⟨d, rfl⟩ : ∃ d, r = s + 1 + d := ⟨r - s - 1, by omega⟩
    exact h.same d A s hr fun j hj => (hA j hj).symm
/-- two rows change places -/
theorem swap (h : RowF n F) (A : MatF) {r s : Nat} (hr : r < n) (hs : s < n) (hne : r ≠ s) (u v : Nat → Int) : F (setr (setr A r u) s v) = - F (setr (setr A r v) s u) :=
  h.two A hr hs hne (fun u => h.eqr hr hs hne fun j _ => by rw [set_at, set_ne _ hne, set_at]) u v
/-- a multiple of another row is put to a row -/
theorem addrow (h : RowF n F) (A : MatF) {r s : Nat} (hr : r < n) (hs : s < n) (hne : r ≠ s) (x : Int) : F (setr A r fun j => A r j + x * A s j) = F A := by
  rw [h.add A hr, set_self, h.smul A hr, h.eqr hr hs hne (A := setr A r (A s)) fun j _ => by rw [set_at, set_ne _ (fun e => hne e.symm)]]; omega
/-- row 0 is that of the place k, and all else in the column is 0 -/
def ins (k : Nat) (B : MatF) : MatF := fun i j => if i = 0 then (if j = k then 1 else 0) else if j = k then 0 else B (i - 1) (unskip k j)
theorem ins_zero (k : Nat) (B : MatF) (j : Nat) : ins k B 0 j = if j = k then 1 else 0 := rfl
theorem ins_succ (k : Nat) (B : MatF) (i j : Nat) : ins k B (i + 1) j = if j = k then 0 else B i (unskip k j) := rfl
theorem ins_set (k : Nat) (B : MatF) (r : Nat) (v : Nat → Int) : ins k (setr B r v) = setr (ins k B) (r + 1) (fun j => if j = k then 0 else v (unskip k j)) := by
  funext i j
  cases i with
  | zero => exact (if_neg (by omega)).symm
  | succ i =>
    show _ = if i + 1 = r + 1 then (if j = k then 0 else v (unskip k j)) else ins k B (i + 1) j
    rw [ins_succ, ins_succ]
    unfold setr
    by_cases e : i = r
    · rw [if_pos (c := i + 1 = r + 1) (by omega), if_pos e]
    · rw [if_neg (c := i + 1 = r + 1) (by omega), if_neg e]
theorem insF {F : MatF → Int} (h : RowF (n + 1) F) {k : Nat} (hk : k < n + 1) : RowF n fun B => F (ins k B) where
  congr {A B} e := h.congr fun i j hi hj => by
    cases i with
    | zero => rfl
    | succ i =>
      rw [ins_succ, ins_succ]
      by_cases h1 : j = k
      · rw [if_pos h1, if_pos h1]
      · rw [if_neg h1, if_neg h1]; exact e _ _ (by omega) (unskip_lt hj hk h1)
  lin A r x y u v hr := by
    simp only [ins_set]
    rw [← h.lin _ (r + 1) x y _ _ (by omega)]
    congr 2; funext j; split
    · omega
    · rfl
  alt A r hr e := h.alt _ (r + 1) (by omega) fun j hj => by
    rw [ins_succ, ins_succ]
    split
    · rfl
    · rename_i h1; exact e _ (unskip_lt hj hk h1)
theorem ins_one (h : RowF (n + 1) F) : ∀ k : Nat, k < n + 1 → F (ins k one) = sg k * F one
  | 0, _ => by
    have e : F (ins 0 one) = F one := h.congr fun i j _ _ => by
      unfold ins one unskip
      repeat' split
      all_goals omega
    rw [e]; show _ = 1 * _; omega
  | k + 1, hk => by
    have ih := ins_one h k (by omega)
    have e1 : ins k one = setr (setr (ins k one) 0 (ins k one 0)) (k + 1) (ins k one (k + 1)) := by rw [set_self, set_self]
    have e2 : F (ins (k + 1) one) = F (setr (setr (ins k one) 0 (ins k one (k + 1))) (k + 1) (ins k one 0)) := h.congr fun i j hi hj => by
      unfold setr
      by_cases hik : i = k + 1
      · rw [if_pos hik, hik, ins_zero, ins_succ]
        unfold one unskip
        repeat' split
        all_goals omega
      · rw [if_neg hik]
        cases i with
        | zero =>
          rw [if_pos rfl, ins_zero, ins_succ]
          unfold one unskip
          repeat' split
          all_goals omega
        | succ i =>
          rw [if_neg (by omega), ins_succ, ins_succ]
          unfold one unskip
          repeat' split
          all_goals omega
    have e3 : F (ins (k + 1) one) = - F (ins k one) := by rw [e2, h.swap _ (by omega) hk (by omega), ← e1]
    rw [e3, ih, sg_succ, Int.neg_mul]
/-- the first m rows below row 0 have 0 in the column k -/
def clrd (A : MatF) (k m : Nat) : MatF := fun i j => if i = 0 then (if j = k then 1 else 0) else if j = k ∧ i ≤ m then 0 else A i j
theorem clrd_F (h : RowF (n + 1) F) (A : MatF) {k : Nat} (hk : k < n + 1) : ∀ m : Nat, m ≤ n → F (clrd A k m) = F (clrd A k 0)
  | 0, _ => rfl
  | m + 1, hm => by
    rw [← clrd_F h A hk m (by omega), ← h.addrow (clrd A k m) (r := m + 1) (s := 0) (by omega) (by omega) (by omega) (- A (m + 1) k)]
    refine h.congr fun i j hi hj => ?_
    unfold setr
    by_cases e : i = m + 1
    · rw [if_pos e, e]
      show (if j = k ∧ m + 1 ≤ m + 1 then 0 else A (m + 1) j) = (if j = k ∧ m + 1 ≤ m then 0 else A (m + 1) j) + -A (m + 1) k * (if j = k then 1 else 0)
      by_cases h1 : j = k
      · rw [h1, if_pos ⟨rfl, Nat.le_refl _⟩, if_neg (by omega), if_pos rfl]; omega
      · rw [if_neg (by omega), if_neg (by omega), if_neg h1]; omega
    · rw [if_neg e]
      unfold clrd
      split
      · rfl
      · by_cases h1 : j = k ∧ i ≤ m
        · rw [if_pos h1, if_pos ⟨h1.1, by omega⟩]
        · rw [if_neg h1, if_neg (by omega)]
end RowF
open RowF
/-- there is one alone -/
theorem RowF.uniq : ∀ {n : Nat} {F : MatF → Int}, RowF n F → ∀ A : MatF, F A = F one * det n A
  | 0, F, h, A => by
    rw [show det 0 A = 1 from rfl, Int.mul_one]
    exact h.congr fun i j hi => by omega
  | n + 1, F, h, A => by
    have e1 : F A = F (setr A 0 fun j => sm (n + 1) fun k => A 0 k * (if j = k then 1 else 0)) := h.congr fun i j hi hj => by
      unfold setr; split
      · rename_i e
        show _ = sm (n + 1) fun k => A 0 k * (if j = k then 1 else 0)
        rw [e, sm_one (c := j) hj fun k _ hne => by rw [if_neg (fun e => hne e.symm), Int.mul_zero], if_pos rfl, Int.mul_one]
      · rfl
    rw [e1, h.sum A (by omega) (fun k => A 0 k) (fun k j => if j = k then 1 else 0), det_succ, ← sm_smul]
    refine sm_congr fun k hk => ?_
    have e2 : F (setr A 0 fun j => if j = k then 1 else 0) = F (clrd A k 0) := h.congr fun i j _ _ => by
      unfold setr clrd; split
      · rfl
      · rw [if_neg (by omega)]
    have e3 : F (clrd A k n) = F (ins k fun i j => A (i + 1) (skip k j)) := h.congr fun i j hi hj => by
      unfold clrd ins
      split
      · rfl
      · rename_i h0
        by_cases h1 : j = k
        · rw [if_pos ⟨h1, by omega⟩, if_pos h1]
        · rw [if_neg (by omega), if_neg h1]
          show A i j = A (i - 1 + 1) (skip k (unskip k j))
          rw [skip_unskip h1, show i - 1 + 1 = i by omega]
    have e4 := RowF.uniq (h.insF hk) fun i j => A (i + 1) (skip k j)
    simp only [ins_one h k hk] at e4
    rw [e2, ← clrd_F h A hk n (Nat.le_refl _), e3, e4]
    generalize det n (fun i j => A (i + 1) (skip k j)) = d
    generalize A 0 k = a
    generalize sg k = s
    generalize F one = f
    rw [Int.mul_left_comm f s, Int.mul_left_comm f a, Int.mul_assoc, Int.mul_left_comm a s]
def tr (A : MatF) : MatF := fun i j => A j i
theorem detT_rowF (n : Nat) : RowF n fun A => det n (tr A) where
  congr e := det_congr fun i j hi hj => e j i hj hi
  lin A r x y u v hr := det_col x y u v (tr A) r hr
  alt A r hr e := det_cols_eq (tr A) r hr e
/-- the transpose has the same determinant -/
theorem det_tr (n : Nat) (A : MatF) : det n (tr A) = det n A := by
  have h := (detT_rowF n).uniq A
  have e : det n (tr one) = 1 := by
    rw [← det_one n]
    exact det_congr fun i j _ _ => by
      unfold tr one
      repeat' split
      all_goals omega
  rw [h, e, Int.one_mul]
theorem det_rowF (n : Nat) : RowF n (det n) := by
  have e : det n = fun A => det n (tr A) := funext fun A => (det_tr n A).symm
  rw [e]; exact detT_rowF n
end Go.Dt
/- Minors, and the identity that elimination without fractions rests on. No program here. -/
namespace Go.Dt
open RowF
theorem sm_left (f : Nat → Int) : ∀ n : Nat, sm (n + 1) f = f 0 + sm n (fun i => f (i + 1))
  | 0 => by show (0 : Int) + f 0 = f 0 + 0; omega
  | n + 1 => by
    show sm (n + 1) f + f (n + 1) = f 0 + (sm n (fun i => f (i + 1)) + f (n + 1))
    rw [sm_left f n]; omega
/-- the rows and columns that are named -/
def sub (A : MatF) (rs cs : List Nat) : MatF := fun i j => A (rs.getD i 0) (cs.getD j 0)
/-- a bordered minor is the row, and multiples of the others -/
def ec (A : MatF) (rs cs : List Nat) (i r : Nat) : Int := sg (r + 1) * det rs.length (fun p q => A ((i :: rs).getD (skip (r + 1) q) 0) (cs.getD p 0))
end Go.Dt
/- Lattices of rows of whole numbers, and Hermite's form: what is so of them. No program here. -/
namespace Go.Hp
open Go.Dt
/-! ### a row's first number that isn't 0 -/
def fc : Nat → (Nat → Int) → Nat
  | 0, _ => 0
  | n + 1, f => if fc n f < n then fc n f else if f n = 0 then n + 1 else n
theorem fc_spec (f : Nat → Int) : ∀ C : Nat, fc C f ≤ C ∧ (∀ k, k < fc C f → f k = 0) ∧ (fc C f < C → f (fc C f) ≠ 0)
  | 0 => ⟨Nat.le_refl _, fun k hk => absurd hk (Nat.not_lt_zero _), fun h => absurd h (Nat.not_lt_zero _)⟩
  | n + 1 => by
    obtain ⟨h1, h2, h3⟩ := fc_spec f n
    have e : fc (n + 1) f = if fc n f < n then fc n f else if f n = 0 then n + 1 else n := rfl
    by_cases h : fc n f < n
    · rw [e, if_pos h]; exact ⟨by omega, h2, fun _ => h3 h⟩
    · have hn : fc n f = n := by omega
      rw [hn] at h2
      by_cases h0 : f n = 0
      · rw [e, if_neg h, if_pos h0]
        refine ⟨Nat.le_refl _, fun k hk => ?_, fun h => by omega⟩
        rcases Nat.lt_or_ge k n with h4 | h4
        · exact h2 k h4
        · rw [show k = n by omega]; exact h0
      · rw [e, if_neg h, if_neg h0]
        exact ⟨by omega, h2, fun _ => h0⟩
theorem fc_le (f : Nat → Int) (C : Nat) : fc C f ≤ C := (fc_spec f C).1
theorem fc_zero {f : Nat → Int} {C k : Nat} (h : k < fc C f) : f k = 0 := (fc_spec f C).2.1 k h
theorem fc_ne {f : Nat → Int} {C : Nat} (h : fc C f < C) : f (fc C f) ≠ 0 := (fc_spec f C).2.2 h
theorem fc_at {f : Nat → Int} {C c : Nat} (hc : c < C) (h0 : ∀ k, k < c → f k = 0) (h : f c ≠ 0) : fc C f = c := by
  rcases Nat.lt_trichotomy (fc C f) c with h1 | h1 | h1
  · exact absurd (h0 _ h1) (fc_ne (by omega))
  · exact h1
  · exact absurd (fc_zero h1) h
theorem fc_all {f : Nat → Int} {C : Nat} (h : ∀ k, k < C → f k = 0) : fc C f = C := by
  rcases Nat.lt_or_ge (fc C f) C with h1 | h1
  · exact absurd (h _ h1) (fc_ne h1)
  · have := fc_le f C; omega
/-! ### what rows span -/
/-! ### Hermite's form -/
end Go.Hp
/- Hermite's form, step by step, as functions of lists of rows. No program here. -/
namespace Go.Hn
open Go.Nt Go.Pz Go.Mz Go.En
/-- a sum of multiples of two rows -/
def mx2 (x : Int) (p : List Int) (y : Int) (q : List Int) : List Int := (List.range p.length).map fun k => x * cf p k + y * cf q k
/-- the greatest common divisor, and what makes it -/
def xgg (a b : Int) : Int := (Nat.gcd a.natAbs b.natAbs : Nat)
def xgx (a b : Int) : Int := if b = 0 then sgn a else xg a b
def xgy (a b : Int) : Int := if b = 0 then 0 else (xgg a b - xg a b * a).tdiv b
/-! ### the steps -/
/-- two rows are joined: the first one gets the greatest common divisor, the other one 0 -/
def jn (rs : List (List Int)) (t i col : Nat) : List (List Int) :=
  if xgg (cf (rs.getD t []) col) (cf (rs.getD i []) col) = 0 then rs else
  (rs.set t (mx2 (xgx (cf (rs.getD t []) col) (cf (rs.getD i []) col)) (rs.getD t []) (xgy (cf (rs.getD t []) col) (cf (rs.getD i []) col)) (rs.getD i []))).set i
    (mx2 (-((cf (rs.getD i []) col).tdiv (xgg (cf (rs.getD t []) col) (cf (rs.getD i []) col)))) (rs.getD t []) ((cf (rs.getD t []) col).tdiv (xgg (cf (rs.getD t []) col) (cf (rs.getD i []) col))) (rs.getD i []))
def jns (rs : List (List Int)) (t col : Nat) : Nat → List (List Int)
  | 0 => rs
  | n + 1 => jn (jns rs t col n) t (t + 1 + n) col
/-- what is above a pivot is made less than it -/
def rd (rs : List (List Int)) (t i col : Nat) : List (List Int) := rs.set i (mx2 1 (rs.getD i []) (-(cf (rs.getD i []) col / cf (rs.getD t []) col)) (rs.getD t []))
def rds (rs : List (List Int)) (t col : Nat) : Nat → List (List Int)
  | 0 => rs
  | n + 1 => rd (rds rs t col n) t n col
def hsg (rs : List (List Int)) (t col : Nat) : List (List Int) := if cf (rs.getD t []) col < 0 then rs.set t (mx2 (-1) (rs.getD t []) 0 (rs.getD t [])) else rs
structure HS where
  rows : List (List Int)
  top : Nat
def hjs (s : HS) (col : Nat) : List (List Int) := jns s.rows s.top col (s.rows.length - (s.top + 1))
def hcol (s : HS) (col : Nat) : HS := if cf ((hjs s col).getD s.top []) col = 0 then ⟨hjs s col, s.top⟩ else ⟨rds (hsg (hjs s col) s.top col) s.top col s.top, s.top + 1⟩
def hred (s : HS) : Nat → HS
  | 0 => s
  | c + 1 => if (hred s c).top < (hred s c).rows.length then hcol (hred s c) c else hred s c
def row0 (C R : Nat) (L : List Int) (i : Nat) : List Int := (List.range (C + R)).map fun k => if k < C then cf L (i * C + k) else if k = C + i then 1 else 0
def rows0 (C R : Nat) (L : List Int) (n : Nat) : List (List Int) := (List.range n).map (row0 C R L)
def hrm (R C : Nat) (L : List Int) : HS := hred ⟨rows0 C R L R, 0⟩ C
/-! ### sizes -/
/-! ### how great the numbers get -/
/-! ### parts of rows, put together -/
def flatP (lo hi : Nat) (rs : List (List Int)) : List Int := rs.flatMap fun r => (r.take hi).drop lo
end Go.Hn
/- A matrix that is reckoned on, row by row. -/
namespace Go.En
open Go.Nt Go.Pz Go.Mz
/-- a row: where it lies, and its numbers -/
abbrev Row : Type := Gr (Bool × List Nat) × List Int
/-- what an exact division yields -/
def exQ (x l : Int) : Int := if l ≠ 0 ∧ x.tmod l = 0 then x.tdiv l else 0
/-- a row out of which the pivot's row is taken -/
def clr (p row : List Int) (col : Nat) (last : Int) (k : Nat) : Int := exQ (cf row k * cf p col - cf row col * cf p k) last
def clrL (p row : List Int) (col : Nat) (last : Int) : List Int := (List.range row.length).map (clr p row col last)
def mixR (p row : List Int) (col : Nat) (last : Int) (k : Nat) : List Int := (clrL p row col last).take k ++ row.drop k
theorem mixR_zero (p row : List Int) (col : Nat) (last : Int) : mixR p row col last 0 = row := by unfold mixR; rw [List.take_zero, List.drop_zero]; rfl
theorem set_same {β : Type} {l : List β} {i : Nat} {x : β} (h : l[i]? = some x) : l.set i x = l := by
  have hi : i < l.length := by
    rcases Nat.lt_or_ge i l.length with h' | h'
    · exact h'
    · rw [List.getElem?_eq_none h'] at h; cases h
  have e : l[i] = x := by rw [List.getElem?_eq_getElem hi] at h; exact Option.some.inj h
  subst e
  exact List.set_getElem_self hi
theorem mix_start {rs : List Row} {i col : Nat} {r : Row} {p : List Int} {last : Int} (h : rs[i]? = some r) : rs = rs.set i (r.1, mixR p r.2 col last 0) := by rw [mixR_zero]; exact (set_same h).symm
end Go.En
/- Elimination without fractions: what stands in the rows are minors. No program here. -/
namespace Go.Dt
open RowF Go.Pz
theorem getD_some {β : Type} {l : List β} {i : Nat} {x d : β} (h : l[i]? = some x) : l.getD i d = x := by rw [List.getD, h]; rfl
end Go.Dt
/- Determinants of the matrices that a program holds: sizes, and what is left of a row and a column. -/
namespace Go.Mz
open Go.Pz Go.Nt Go.En Go.Dt
/-- the matrix of a list of numbers, row by row -/
def mf (C : Nat) (L : List Int) : MatF := fun i k => cf L (i * C + k)
theorem sm_nw {f : Nat → Int} {K : Nat} (h : ∀ i, (List.length (words (f i).natAbs)) ≤ K) : ∀ n, (List.length (words (sm n f).natAbs)) ≤ K + n
  | 0 => by show (List.length (words (Int.natAbs 0))) ≤ _; rw [Int.natAbs_zero, words_zero]; exact Nat.zero_le _
  | n + 1 => by
    have h1 := sm_nw h n
    have h2 := nz_add (sm n f) (f n)
    have h3 := h n
    show (List.length (words (sm n f + f n).natAbs)) ≤ _
    omega
theorem dotS_sm (f g : Nat → Int) : ∀ n, dotS f g n = sm n fun i => f i * g i
  | 0 => rfl
  | n + 1 => by show dotS f g n + f n * g n = sm n _ + _; rw [dotS_sm f g n]
end Go.Mz
namespace Go.En
open Go.Nt Go.Pz Go.Mz
section
variable {E : Env} {P : Program} {Γ : Ctx} {M : Mem} {x : Operand}
theorem Has.okM {r c : Int} {xs : List (Bool × List Nat)} (h : Has E Γ M x (isM r c xs)) : ∀ a w F, Sat E Γ M a w F → ∀ p ∈ xs, (∀ y ∈ p.2, y < 18446744073709551616) ∧ p.2.length ≤ 9223372036854775807 := by
  intro a w F s p hp
  obtain ⟨vs0, _, hv0⟩ := h a w F s
  obtain ⟨v0, _, ad, cap, e, g1, g2, g3, g4⟩ := hv0.get 2 (SlK 2 zc xs) rfl
  obtain ⟨i, hi, rfl⟩ := List.mem_iff_getElem.1 hp
  rcases g4 with g4 | ⟨b, off, _, _, vs, hv, _⟩
  · omega
  · have hd := (hv.drop (i * 2)).take 2
    rw [flat_drop xs i xs[i] (fun y _ => zc_len y) (List.getElem?_eq_getElem hi)] at hd
    obtain ⟨v, _, ad, cap, e, g1, g2, g3, g4⟩ := hd.get 1 (isWords xs[i].2) rfl
    refine ⟨fun y hy => ?_, by rw [maxLen_eq] at g2; omega⟩
    obtain ⟨j, hj, rfl⟩ := List.mem_iff_getElem.1 hy
    rcases g4 with g4 | ⟨b, off, _, _, us, hu, _⟩
    · omega
    · obtain ⟨u, _, h2⟩ := hu.get j (isU xs[i].2[j]) (by simp [hj])
      exact h2.2
end
end Go.En
/- Hermite's form, as it is brought about step by step: what is so of it. No program here. -/
namespace Go.Hp
open Go.Dt Go.Hn Go.Pz Go.Nt Go.Mz
/-- the numbers of some rows -/
def E (rs : List (List Int)) : MatF := fun i k => cf (rs.getD i []) k
/-! ### the form's shape -/
/-! ### all of it -/
/-- Hermite's form of a matrix, and what makes it -/
def hF (R C : Nat) (L : List Int) : MatF := fun i k => E (hrm R C L).rows i k
end Go.Hp
/- Hermite's form as a program hands it back: its lists. No program here. -/
namespace Go.Hp
open Go.Dt Go.Hn Go.Pz Go.Nt Go.Mz Go.En
def hL (R C : Nat) (L : List Int) : List Int := flatP 0 C (hrm R C L).rows
theorem place_of {R C j : Nat} (h : j < R * C) : ∃ i k, i < R ∧ k < C ∧ j = i * C + k := by
  have hC : 0 < C := by
    rcases Nat.eq_zero_or_pos C with h0 | h0
    · subst h0; rw [Nat.mul_zero] at h; omega
    · exact h0
  have h1 := Nat.div_add_mod j C
  rw [Nat.mul_comm] at h1
  exact ⟨j / C, j % C, Nat.div_lt_of_lt_mul (by rwa [Nat.mul_comm]), Nat.mod_lt _ hC, by omega⟩
end Go.Hp
/- Where the rows of a form begin; forms as lists. -/
namespace Go.Hp
open Go.Dt Go.Hn Go.Pz Go.Nt Go.Mz Go.En
/-- the first number that isn't 0; -1: there is none -/
def fir (C : Nat) (f : Nat → Int) : Int := if fc C f < C then ((fc C f : Nat) : Int) else -1
theorem fir_at {C i : Nat} {f : Nat → Int} (hi : i < C) (h0 : ∀ j, j < i → f j = 0) (h : f i ≠ 0) : fir C f = (i : Int) := by
  have := fc_at hi h0 h
  unfold fir
  rw [this, if_pos hi]
theorem fir_all {C : Nat} {f : Nat → Int} (h : ∀ j, j < C → f j = 0) : fir C f = -1 := by
  unfold fir
  rw [fc_all h, if_neg (Nat.lt_irrefl _)]
theorem ext_cf {a b : List Int} (hl : a.length = b.length) (h : ∀ j, j < a.length → cf a j = cf b j) : a = b := by
  refine List.ext_getElem? fun j => ?_
  rcases Nat.lt_or_ge j a.length with h1 | h1
  · rw [getElem_cf h1, getElem_cf (by omega), h j h1]
  · rw [List.getElem?_eq_none h1, List.getElem?_eq_none (by omega)]
end Go.Hp
/- Contracts: the same matrices. -/
namespace Go.Proofs.Ytgkbekcpmbjbdaa
open Go.En Go.RowKit
set_option linter.unusedVariables false
set_option maxRecDepth 10000
open Go.Nt
open Go.Pz
open Go.Mz
open Go.Hn
open Go.Hp
open Go.Dt
set_option maxHeartbeats 4000000 in
theorem zmat_alike {r c r2 c2 : Int} {xs ys : List (Bool × List Nat)} : Ctr Try.prog 82 [isM r c xs, isM r2 c2 ys] (isB (formB r c xs.length && formB r2 c2 ys.length && decide (r = r2) && decide (c = c2))) := by
  refine Ctr.intro Try.func82 rfl (by kernel_rfl) Try.ntmps82 rfl fun w0 F0 => ?_
  refine Tri.cv (Cv.wk (.cons (t := 0) (Has.t rfl) (.cons (t := 1) (Has.t rfl) .nil))) ?_
  refine Tri.seq fun K1 hK1 => ?_
  refine Tri.region ?_
  refine Ops.box (Has.t rfl) rfl fun b1 => ?_
  refine Ops.box (Has.t rfl) rfl fun b2 => ?_
  refine st (OK1.as (Has.cB false)) rfl ?_
  refine nl ?_
  refine At.thn (hK1 _ _ ?_); clear hK1
  refine Tri.seq fun K2 hK2 => ?_
  refine Tri.region ?_
  refine st (OK1.load (Has.t rfl) (i := 1) rfl ty24 rfl (Ss' := [_, _, _]) rfl) rfl ?_
  refine st (OK1.call (zmat_Formed) (.cons (Has.t rfl) .nil)) rfl ?_
  refine st (OK1.mv (Has.t rfl)) rfl ?_
  refine stT rfl rfl (fun hg => have hg' := BP.t hg; OK1.load (Has.t rfl) (i := 0) rfl ty24 rfl (Ss' := [_, _, _]) rfl) rfl ?_
  refine stT rfl rfl (fun hg => have hg' := BP.t hg; OK1.call (zmat_Formed) (.cons (Has.g rfl hg) .nil)) rfl ?_
  refine st (OK1.pickAnd (Has.t rfl) (fun h => Has.g rfl h)) rfl ?_
  refine st (OK1.mv (Has.t rfl)) rfl ?_
  refine stT rfl rfl (fun hg => have hg' := BP.t hg; OK1.fieldAddr (Has.t rfl) fld24_0 ty3) rfl ?_
  refine stT rfl rfl (fun hg => have hg' := BP.t hg; OK1.load1 (Has.g rfl hg) (i := 1) rfl ty3 rfl) rfl ?_
  refine stT rfl rfl (fun hg => have hg' := BP.t hg; OK1.fieldAddr (Has.t rfl) fld24_0 ty3) rfl ?_
  refine stT rfl rfl (fun hg => have hg' := BP.t hg; OK1.load1 (Has.g rfl hg) (i := 0) rfl ty3 rfl) rfl ?_
  refine stT rfl rfl (fun hg => have hg' := BP.t hg; OK1.eqI (Has.g rfl hg) (Has.g rfl hg)) rfl ?_
  refine st (OK1.pickAnd (Has.t rfl) (fun h => Has.g rfl h)) rfl ?_
  refine st (OK1.mv (Has.t rfl)) rfl ?_
  refine stT rfl rfl (fun hg => have hg' := BP.t hg; OK1.fieldAddr (Has.t rfl) fld24_1 ty3) rfl ?_
  refine stT rfl rfl (fun hg => have hg' := BP.t hg; OK1.load1 (Has.g rfl hg) (i := 1) rfl ty3 rfl) rfl ?_
  refine stT rfl rfl (fun hg => have hg' := BP.t hg; OK1.fieldAddr (Has.t rfl) fld24_1 ty3) rfl ?_
  refine stT rfl rfl (fun hg => have hg' := BP.t hg; OK1.load1 (Has.g rfl hg) (i := 0) rfl ty3 rfl) rfl ?_
  refine stT rfl rfl (fun hg => have hg' := BP.t hg; OK1.eqI (Has.g rfl hg) (Has.g rfl hg)) rfl ?_
  refine st (OK1.pickAnd (Has.t rfl) (fun h => Has.g rfl h)) rfl ?_
  refine st (OK1.as (Has.t rfl)) rfl ?_
  refine nl ?_
  refine At.thn (hK2 _ _ ?_); clear hK2
  refine Tri.cv (Cv.wk (.cons (t := 4) (Has.t rfl) .nil)) ?_
  refine Tri.ret ?_
  refine rt1 (.inl rfl) Try.results82 rfl (.tmp (Has.t' rfl ?_) .nil)
  all_goals (rfl)
end Go.Proofs.Ytgkbekcpmbjbdaa
/- A matrix's characteristic polynomial: its numbers, and those of the adjugate. No program here. -/
namespace Go.Ch
open Go.Dt Go.Dt.RowF
/-! ### polynomials as functions -/
def pe (c : Nat → Int) (d : Nat) (x : Int) : Int := sm d fun i => c i * x ^ i
theorem pe_left (c : Nat → Int) (d : Nat) (x : Int) : pe c (d + 1) x = c 0 + x * pe (fun i => c (i + 1)) d x := by
  unfold pe
  rw [sm_left, Int.pow_zero, Int.mul_one, ← sm_smul]
  congr 1
  exact sm_congr fun i _ => by rw [Int.pow_succ]; grind
theorem pe_lin (x y : Int) (c e : Nat → Int) (d : Nat) (z : Int) : pe (fun i => x * c i + y * e i) d z = x * pe c d z + y * pe e d z := by
  unfold pe
  rw [← sm_lin]
  exact sm_congr fun i _ => by grind
theorem pe_zero : ∀ (d : Nat) (c : Nat → Int), (∀ x, x ≠ 0 → pe c d x = 0) → ∀ i, i < d → c i = 0
  | 0, _, _, i, h => absurd h (Nat.not_lt_zero _)
  | d + 1, c, h, i, hi => by
    have h0 : c 0 = 0 := by
      have h1 := h ((c 0).natAbs + 1 : Nat) (by omega)
      rw [pe_left] at h1
      have hd : (((c 0).natAbs + 1 : Nat) : Int) ∣ c 0 := ⟨-(pe (fun i => c (i + 1)) d ((c 0).natAbs + 1 : Nat)), by rw [Int.mul_neg]; omega⟩
      refine Classical.byContradiction fun hne => ?_
      have h2 := Nat.le_of_dvd (by omega) (Int.natAbs_dvd_natAbs.2 hd)
      rw [Int.natAbs_natCast] at h2
      omega
    cases i with
    | zero => exact h0
    | succ i =>
      refine pe_zero d (fun i => c (i + 1)) (fun x hx => ?_) i (by omega)
      have h1 := h x hx
      rw [pe_left, h0, Int.zero_add] at h1
      rcases Int.mul_eq_zero.1 h1 with g | g
      · exact absurd g hx
      · exact g
theorem pe_inj {d : Nat} {c e : Nat → Int} (h : ∀ x, pe c d x = pe e d x) : ∀ i, i < d → c i = e i := fun i hi => by
  have : 1 * c i + -1 * e i = 0 := pe_zero d (fun i => 1 * c i + -1 * e i) (fun x _ => by rw [pe_lin, h x]; omega) i hi
  omega
theorem pe_succ (c : Nat → Int) (d : Nat) (x : Int) : pe c (d + 1) x = pe c d x + c d * x ^ d := rfl
theorem pe_congr {c e : Nat → Int} {d : Nat} (h : ∀ i, i < d → c i = e i) (x : Int) : pe c d x = pe e d x := sm_congr fun i hi => by rw [h i hi]
/-- a polynomial of at most a degree, and its number there -/
def PL (n : Nat) (f : Int → Int) (t : Int) : Prop := ∃ c : Nat → Int, (∀ x, f x = pe c (n + 1) x) ∧ c n = t
theorem PL.const (a : Int) : PL 0 (fun _ => a) a := ⟨fun _ => a, fun x => by show a = 0 + a * x ^ 0; rw [Int.pow_zero]; omega, rfl⟩
theorem PL.up {n : Nat} {f : Int → Int} {t : Int} (h : PL n f t) : PL (n + 1) f 0 := by
  obtain ⟨c, hc, _⟩ := h
  refine ⟨fun i => if i ≤ n then c i else 0, fun x => ?_, if_neg (by omega)⟩
  rw [pe_succ, if_neg (by omega), Int.zero_mul, Int.add_zero, hc]
  exact pe_congr (fun i hi => (if_pos (by omega)).symm) x
theorem PL.lin {n : Nat} {f g : Int → Int} {s t : Int} (a b : Int) (hf : PL n f s) (hg : PL n g t) : PL n (fun x => a * f x + b * g x) (a * s + b * t) := by
  obtain ⟨c, hc, rfl⟩ := hf
  obtain ⟨e, he, rfl⟩ := hg
  exact ⟨fun i => a * c i + b * e i, fun x => by dsimp only; rw [pe_lin, hc, he], rfl⟩
theorem PL.shift {n : Nat} {f : Int → Int} {t : Int} (h : PL n f t) : PL (n + 1) (fun x => x * f x) t := by
  obtain ⟨c, hc, rfl⟩ := h
  refine ⟨fun i => if i = 0 then 0 else c (i - 1), fun x => ?_, by dsimp only; rw [if_neg (by omega)]; rfl⟩
  dsimp only
  rw [pe_left, if_pos rfl, Int.zero_add, hc]
  congr 1
theorem PL.mul {n : Nat} {g : Int → Int} {t : Int} (a b : Int) (h : PL n g t) : PL (n + 1) (fun x => (a * x + b) * g x) (a * t) := by
  have := PL.lin a b h.shift h.up
  rw [Int.mul_zero, Int.add_zero] at this
  obtain ⟨c, hc, ht⟩ := this
  exact ⟨c, fun x => by rw [← hc]; dsimp only; grind, ht⟩
theorem PL.zero (n : Nat) : PL n (fun _ => 0) 0 := ⟨fun _ => 0, fun x => by unfold pe; rw [sm_zero fun i _ => Int.zero_mul _], rfl⟩
theorem PL.sum {n : Nat} {f : Nat → Int → Int} {t : Nat → Int} : ∀ {m : Nat}, (∀ k, k < m → PL n (f k) (t k)) → PL n (fun x => sm m fun k => f k x) (sm m t)
  | 0, _ => PL.zero n
  | m + 1, h => by
    have h1 := PL.sum (m := m) fun k hk => h k (by omega)
    have h2 := PL.lin 1 1 h1 (h m (by omega))
    obtain ⟨c, hc, ht⟩ := h2
    exact ⟨c, fun x => by rw [← hc]; dsimp only; show sm m (fun k => f k x) + f m x = _; omega, by rw [ht]; show _ = sm m t + t m; omega⟩
theorem PL.det : ∀ (n : Nat) (a b : MatF), PL n (fun x => Go.Dt.det n fun i j => a i j * x + b i j) (Go.Dt.det n a)
  | 0, a, b => PL.const 1
  | n + 1, a, b => by
    have h : PL (n + 1) (fun x => sm (n + 1) fun k => sg k * ((a 0 k * x + b 0 k) * Go.Dt.det n fun i j => a (i + 1) (skip k j) * x + b (i + 1) (skip k j))) (sm (n + 1) fun k => sg k * (a 0 k * Go.Dt.det n fun i j => a (i + 1) (skip k j))) :=
      PL.sum (f := fun k x => sg k * ((a 0 k * x + b 0 k) * Go.Dt.det n fun i j => a (i + 1) (skip k j) * x + b (i + 1) (skip k j))) (t := fun k => sg k * (a 0 k * Go.Dt.det n fun i j => a (i + 1) (skip k j))) fun k _ => by
        have h1 := PL.lin (sg k) 0 (PL.mul (a 0 k) (b 0 k) (PL.det n (fun i j => a (i + 1) (skip k j)) fun i j => b (i + 1) (skip k j))) (PL.zero (n + 1))
        obtain ⟨c, hc, ht⟩ := h1
        exact ⟨c, fun x => by rw [← hc]; dsimp only; omega, by rw [ht]; omega⟩
    exact h
/-! ### the characteristic polynomial -/
/-- x less the matrix -/
def xm (A : MatF) (x : Int) : MatF := fun i j => one i j * x + -(A i j)
theorem cp_ex (n : Nat) (A : MatF) : ∃ c : Nat → Int, (∀ x, det n (xm A x) = pe c (n + 1) x) ∧ c n = 1 := by
  have := PL.det n one fun i j => -(A i j)
  rw [det_one] at this
  exact this
noncomputable def cp (n : Nat) (A : MatF) : Nat → Int := Classical.choose (cp_ex n A)
theorem cp_ev (n : Nat) (A : MatF) (x : Int) : det n (xm A x) = pe (cp n A) (n + 1) x := (Classical.choose_spec (cp_ex n A)).1 x
theorem cp_top (n : Nat) (A : MatF) : cp n A n = 1 := (Classical.choose_spec (cp_ex n A)).2
/-- the adjugate's -/
theorem ca_ex (n : Nat) (A : MatF) (i j : Nat) : ∃ c : Nat → Int, j < n → (∀ x, det n (setr (xm A x) j (one i)) = pe c (n + 1) x) ∧ c n = 0 := by
  by_cases hj : j < n
  · have h := PL.det n (setr one j fun _ => 0) (setr (fun i j => -(A i j)) j (one i))
    rw [(det_rowF n).zero hj fun k _ => by rw [set_at]] at h
    obtain ⟨c, hc, h0⟩ := h
    refine ⟨c, fun _ => ⟨fun x => ?_, h0⟩⟩
    rw [← hc]
    refine det_congr fun r k _ _ => ?_
    unfold setr xm
    by_cases e : r = j
    · rw [if_pos e, if_pos e, if_pos e]; dsimp only; omega
    · rw [if_neg e, if_neg e, if_neg e]
  · exact ⟨fun _ => 0, fun h => absurd h hj⟩
noncomputable def ca (n : Nat) (A : MatF) (m i j : Nat) : Int := Classical.choose (ca_ex n A i j) m
theorem ca_ev {n : Nat} (A : MatF) (i : Nat) {j : Nat} (hj : j < n) (x : Int) : det n (setr (xm A x) j (one i)) = pe (fun m => ca n A m i j) (n + 1) x := (Classical.choose_spec (ca_ex n A i j) hj).1 x
theorem ca_top {n : Nat} (A : MatF) (i : Nat) {j : Nat} (hj : j < n) : ca n A n i j = 0 := (Classical.choose_spec (ca_ex n A i j) hj).2
/-- a matrix times its adjugate -/
theorem adj_mul (n : Nat) (B : MatF) {k i : Nat} (hk : k < n) (hi : i < n) : (sm n fun j => B k j * det n (setr B i (one j))) = if k = i then det n B else 0 := by
  rw [← (det_rowF n).sum B hi (B k) one n]
  have e : det n (setr B i fun j => sm n fun k' => B k k' * one k' j) = det n (setr B i (B k)) := det_congr fun r c _ hc => by
    unfold setr
    split
    · dsimp only
      rw [sm_one (c := c) hc fun m _ hne => by unfold one; rw [if_neg hne, Int.mul_zero]]
      unfold one; rw [if_pos rfl, Int.mul_one]
    · rfl
  rw [e]
  by_cases h : k = i
  · subst h; rw [if_pos rfl, set_self]
  · rw [if_neg h]
    exact (det_rowF n).eqr hi hk (fun e => h e.symm) fun c _ => by rw [set_at, set_ne _ h]
theorem sm_pe (m d : Nat) (a : Nat → Int) (c : Nat → Nat → Int) (x : Int) : (sm m fun j => a j * pe (c j) d x) = pe (fun i => sm m fun j => a j * c j i) d x := by
  unfold pe
  rw [show (fun j => a j * sm d fun i => c j i * x ^ i) = fun j => sm d fun i => a j * (c j i * x ^ i) from funext fun j => (sm_smul _ _ _).symm, sm_swap]
  exact sm_congr fun i _ => by
    rw [Int.mul_comm _ (x ^ i), ← sm_smul]
    exact sm_congr fun j _ => by grind
/-- the adjugate's numbers, one from the next -/
theorem ca_rec {n : Nat} (A : MatF) {m k i : Nat} (hm : m ≤ n) (hk : k < n) (hi : i < n) : (if m = 0 then 0 else ca n A (m - 1) k i) - (sm n fun j => A k j * ca n A m j i) = if k = i then cp n A m else 0 := by
  have key : ∀ x, pe (fun m => (if m = 0 then 0 else ca n A (m - 1) k i)) (n + 2) x = pe (fun m => 1 * (sm n fun j => A k j * if m ≤ n then ca n A m j i else 0) + (if k = i then 1 else 0) * if m ≤ n then cp n A m else 0) (n + 2) x := fun x => by
    rw [pe_left, if_pos rfl, Int.zero_add]
    have e1 : pe (fun i_1 => if i_1 + 1 = 0 then 0 else ca n A (i_1 + 1 - 1) k i) (n + 1) x = pe (fun m => ca n A m k i) (n + 1) x := pe_congr (fun m _ => by rw [if_neg (by omega)]; rfl) x
    rw [e1, ← ca_ev A k hi x, pe_lin]
    have e2 : pe (fun m => if m ≤ n then cp n A m else 0) (n + 2) x = det n (xm A x) := by
      rw [pe_succ, if_neg (by omega), Int.zero_mul, Int.add_zero, cp_ev]
      exact pe_congr (fun m hm => if_pos (by omega)) x
    have e3 : pe (fun m => sm n fun j => A k j * if m ≤ n then ca n A m j i else 0) (n + 2) x = sm n fun j => A k j * det n (setr (xm A x) i (one j)) := by
      rw [← sm_pe]
      refine sm_congr fun j _ => ?_
      rw [pe_succ, if_neg (by omega), Int.zero_mul, Int.add_zero, ca_ev A j hi x]
      congr 1
      exact pe_congr (fun m hm => if_pos (by omega)) x
    rw [e2, e3]
    have h := adj_mul n (xm A x) hk hi
    have e4 : (sm n fun j => xm A x k j * det n (setr (xm A x) i (one j))) = x * det n (setr (xm A x) i (one k)) - sm n fun j => A k j * det n (setr (xm A x) i (one j)) := by
      have e5 : (fun j => xm A x k j * det n (setr (xm A x) i (one j))) = fun j => 1 * (one k j * (x * det n (setr (xm A x) i (one j)))) + -1 * (A k j * det n (setr (xm A x) i (one j))) := by
        funext j
        show (one k j * x + -(A k j)) * _ = _
        generalize det n (setr (xm A x) i (one j)) = D
        generalize one k j = o
        grind
      rw [e5, sm_lin, sm_one (n := n) (c := k) hk fun j _ hne => by unfold one; rw [if_neg (fun e => hne e.symm), Int.zero_mul]]
      have : one k k = 1 := if_pos rfl
      rw [this, Int.one_mul]; omega
    rw [e4] at h
    by_cases g : k = i
    · rw [if_pos g] at h ⊢; omega
    · rw [if_neg g] at h ⊢; omega
  have h := pe_inj key m (by omega)
  try dsimp only at h
  rw [h, if_pos hm, show (fun j => A k j * if m ≤ n then ca n A m j i else 0) = fun j => A k j * ca n A m j i from funext fun j => by rw [if_pos hm]]
  by_cases g : k = i
  · rw [if_pos g, if_pos g]; omega
  · rw [if_neg g, if_neg g]; omega
/-! ### the trace -/
theorem det_dvd (y : Int) : ∀ {n : Nat} {A B : MatF}, (∀ i j, i < n → j < n → y ∣ A i j - B i j) → y ∣ det n A - det n B
  | 0, _, _, _ => ⟨0, by show (1 : Int) - 1 = _; omega⟩
  | n + 1, A, B, h => by
    rw [det_succ, det_succ]
    have key : ∀ m, m ≤ n + 1 → y ∣ (sm m fun k => sg k * (A 0 k * det n fun i j => A (i + 1) (skip k j))) - sm m fun k => sg k * (B 0 k * det n fun i j => B (i + 1) (skip k j)) := by
      intro m
      induction m with
      | zero => intro _; exact ⟨0, by show (0 : Int) - 0 = _; omega⟩
      | succ m ih =>
        intro hm
        obtain ⟨q, hq⟩ := ih (by omega)
        obtain ⟨q1, h1⟩ := h 0 m (by omega) (by omega)
        obtain ⟨q2, h2⟩ := det_dvd y (n := n) (A := fun i j => A (i + 1) (skip m j)) (B := fun i j => B (i + 1) (skip m j)) fun i j hi hj => h (i + 1) (skip m j) (by omega) (skip_lt hj)
        refine ⟨q + sg m * (q1 * (det n fun i j => A (i + 1) (skip m j)) + B 0 m * q2), ?_⟩
        show (sm m (fun k => sg k * (A 0 k * det n fun i j => A (i + 1) (skip k j))) + sg m * (A 0 m * det n fun i j => A (i + 1) (skip m j))) - (sm m (fun k => sg k * (B 0 k * det n fun i j => B (i + 1) (skip k j))) + sg m * (B 0 m * det n fun i j => B (i + 1) (skip m j))) = _
        generalize sm m (fun k => sg k * (A 0 k * det n fun i j => A (i + 1) (skip k j))) = a at *
        generalize sm m (fun k => sg k * (B 0 k * det n fun i j => B (i + 1) (skip k j))) = b at *
        generalize (det n fun i j => A (i + 1) (skip m j)) = d at *
        generalize (det n fun i j => B (i + 1) (skip m j)) = e at *
        generalize sg m = s at *
        have e1 : A 0 m = B 0 m + y * q1 := by omega
        have e2 : d = e + y * q2 := by omega
        have e3 : a = b + y * q := by omega
        rw [e1, e2, e3]
        grind
    exact key (n + 1) (Nat.le_refl _)
/-- a determinant beside another one, but for squares -/
theorem det_near (n : Nat) (B : MatF) (y : Int) : y * y ∣ det n (fun i j => B i j + y * one i j) - (det n B + y * sm n fun k => det n (setr B k (one k))) := by
  have key : ∀ m, m ≤ n → y * y ∣ det n (fun i j => if i < m then B i j + y * one i j else B i j) - (det n B + y * sm m fun k => det n (setr B k (one k))) := by
    intro m
    induction m with
    | zero =>
      intro _
      have : (fun i j => if i < 0 then B i j + y * one i j else B i j) = B := by funext i j; exact if_neg (Nat.not_lt_zero _)
      rw [this]
      exact ⟨0, by show det n B - (det n B + y * 0) = _; omega⟩
    | succ m ih =>
      intro hm
      obtain ⟨q, hq⟩ := ih (by omega)
      obtain ⟨C, hC⟩ : ∃ C : MatF, C = fun i j => if i < m then B i j + y * one i j else B i j := ⟨_, rfl⟩
      rw [← hC] at hq
      have e1 : (fun i j => if i < m + 1 then B i j + y * one i j else B i j) = setr C m fun j => C m j + y * one m j := by
        funext i j
        unfold setr
        rw [hC]
        dsimp only
        by_cases e : i = m
        · subst e; rw [if_pos (by omega), if_pos rfl, if_neg (by omega)]
        · rw [if_neg e]
          by_cases g : i < m
          · rw [if_pos (by omega), if_pos g]
          · rw [if_neg (by omega), if_neg g]
      rw [e1, (det_rowF n).add C (show m < n by omega), (det_rowF n).smul C (show m < n by omega), set_self]
      obtain ⟨q2, h2⟩ := det_dvd y (n := n) (A := setr C m (one m)) (B := setr B m (one m)) fun i j _ _ => by
        unfold setr
        split
        · exact ⟨0, by omega⟩
        · rw [hC]
          dsimp only
          by_cases g : i < m
          · rw [if_pos g]; exact ⟨one i j, by omega⟩
          · rw [if_neg g]; exact ⟨0, by omega⟩
      refine ⟨q + q2, ?_⟩
      show det n C + y * det n (setr C m (one m)) - (det n B + y * (sm m (fun k => det n (setr B k (one k))) + det n (setr B m (one m)))) = _
      generalize det n (setr C m (one m)) = a at *
      generalize det n (setr B m (one m)) = b at *
      generalize det n C = c at *
      generalize det n B = d at *
      generalize sm m (fun k => det n (setr B k (one k))) = s at *
      have e2 : a = b + y * q2 := by omega
      have e3 : c = d + y * s + y * y * q := by omega
      rw [e2, e3]
      grind
  have h := key n (Nat.le_refl _)
  have e : det n (fun i j => if i < n then B i j + y * one i j else B i j) = det n (fun i j => B i j + y * one i j) := det_congr fun i j hi _ => if_pos hi
  rw [e] at h
  exact h
theorem pow_near (x y : Int) : ∀ i : Nat, y * y ∣ (x + y) ^ (i + 1) - (x ^ (i + 1) + y * (((i + 1 : Nat) : Int) * x ^ i))
  | 0 => ⟨0, by rw [Int.pow_succ, Int.pow_zero, Int.pow_succ, Int.pow_zero]; simp⟩
  | i + 1 => by
    obtain ⟨q, hq⟩ := pow_near x y i
    refine ⟨q * (x + y) + ((i + 1 : Nat) : Int) * x ^ i, ?_⟩
    rw [Int.pow_succ (x + y) (i + 1), Int.pow_succ x (i + 1)]
    have e : (x + y) ^ (i + 1) = x ^ (i + 1) + y * (((i + 1 : Nat) : Int) * x ^ i) + y * y * q := by omega
    rw [e, show (((i + 1 + 1 : Nat)) : Int) = ((i + 1 : Nat) : Int) + 1 by omega]
    have e2 : x ^ (i + 1) = x ^ i * x := Int.pow_succ x i
    rw [e2]
    generalize x ^ i = a
    generalize ((i + 1 : Nat) : Int) = b
    grind
theorem pe_near (c : Nat → Int) (x y : Int) : ∀ d : Nat, y * y ∣ pe c (d + 1) (x + y) - (pe c (d + 1) x + y * pe (fun m => ((m + 1 : Nat) : Int) * c (m + 1)) d x)
  | 0 => ⟨0, by show 0 + c 0 * (x + y) ^ 0 - (0 + c 0 * x ^ 0 + y * 0) = _; rw [Int.pow_zero, Int.pow_zero]; omega⟩
  | d + 1 => by
    obtain ⟨q, hq⟩ := pe_near c x y d
    obtain ⟨r, hr⟩ := pow_near x y d
    refine ⟨q + c (d + 1) * r, ?_⟩
    rw [pe_succ c (d + 1), pe_succ c (d + 1) x, pe_succ (fun m => ((m + 1 : Nat) : Int) * c (m + 1)) d x]
    generalize pe c (d + 1) (x + y) = a at *
    generalize pe c (d + 1) x = b at *
    generalize pe (fun m => ((m + 1 : Nat) : Int) * c (m + 1)) d x = s at *
    have e1 : a = b + y * s + y * y * q := by omega
    have e2 : (x + y) ^ (d + 1) = x ^ (d + 1) + y * (((d + 1 : Nat) : Int) * x ^ d) + y * y * r := by omega
    rw [e1, e2]
    generalize x ^ (d + 1) = u
    generalize x ^ d = v
    generalize ((d + 1 : Nat) : Int) = w
    grind
/-- the adjugate's trace is what the polynomial grows by -/
theorem ca_tr {n : Nat} (A : MatF) {m : Nat} (hm : m < n) : (sm n fun i => ca n A m i i) = ((m + 1 : Nat) : Int) * cp n A (m + 1) := by
  have key : ∀ x, pe (fun m => sm n fun i => 1 * ca n A m i i) n x = pe (fun m => ((m + 1 : Nat) : Int) * cp n A (m + 1)) n x := fun x => by
    have hS : pe (fun m => sm n fun i => 1 * ca n A m i i) n x = sm n fun i => det n (setr (xm A x) i (one i)) := by
      rw [← sm_pe]
      refine sm_congr fun i hi => ?_
      rw [ca_ev A i hi x, pe_succ, ca_top A i hi, Int.zero_mul, Int.add_zero, Int.one_mul]
    rw [hS]
    obtain ⟨S, hSe⟩ : ∃ S, S = sm n fun i => det n (setr (xm A x) i (one i)) := ⟨_, rfl⟩
    obtain ⟨D, hDe⟩ : ∃ D, D = pe (fun m => ((m + 1 : Nat) : Int) * cp n A (m + 1)) n x := ⟨_, rfl⟩
    rw [← hSe, ← hDe]
    refine Classical.byContradiction fun hne => ?_
    have hy : ∀ y : Int, y ≠ 0 → y ∣ S - D := fun y hy0 => by
      obtain ⟨q, hq⟩ := det_near n (xm A x) y
      obtain ⟨r, hr⟩ := pe_near (cp n A) x y n
      have e : det n (fun i j => xm A x i j + y * one i j) = det n (xm A (x + y)) := det_congr fun i j _ _ => by
        show one i j * x + -(A i j) + y * one i j = one i j * (x + y) + -(A i j)
        generalize one i j = o
        grind
      rw [e, cp_ev, cp_ev, ← hSe] at hq
      rw [← hDe] at hr
      refine ⟨r - q, Int.eq_of_mul_eq_mul_left hy0 ?_⟩
      generalize pe (cp n A) (n + 1) (x + y) = a at *
      generalize pe (cp n A) (n + 1) x = b at *
      rw [Int.mul_sub, ← Int.mul_assoc, Int.mul_sub]
      omega
    have h1 := hy ((S - D).natAbs + 1 : Nat) (by omega)
    have h2 := Nat.le_of_dvd (by omega) (Int.natAbs_dvd_natAbs.2 h1)
    rw [Int.natAbs_natCast] at h2
    omega
  have h := pe_inj key m hm
  simp only [Int.one_mul] at h
  exact h
/-- the trace of the product -/
theorem ca_atr {n : Nat} (A : MatF) {m : Nat} (hm : m < n) : (sm n fun i => sm n fun j => A i j * ca n A m j i) = -(((n - m : Nat) : Int) * cp n A m) := by
  have h : (sm n fun i => sm n fun j => A i j * ca n A m j i) = sm n fun i => 1 * (if m = 0 then 0 else ca n A (m - 1) i i) + -1 * cp n A m := sm_congr fun i hi => by
    have := ca_rec A (show m ≤ n by omega) hi hi
    rw [if_pos rfl] at this
    omega
  rw [h, sm_lin]
  have hc : ∀ (t : Int) (k : Nat), (sm k fun _ => t) = (k : Int) * t := fun t k => by
    induction k with
    | zero => show 0 = _; omega
    | succ k ih =>
      show (sm k fun _ => t) + t = _
      rw [ih, show ((k + 1 : Nat) : Int) = (k : Int) + 1 by omega, Int.add_mul]; omega
  rw [hc]
  by_cases h0 : m = 0
  · subst h0
    rw [show (fun i => if 0 = 0 then (0 : Int) else ca n A (0 - 1) i i) = fun _ => 0 from funext fun i => if_pos rfl, hc, Nat.sub_zero]
    omega
  · have ht := ca_tr A (show m - 1 < n by omega)
    rw [show m - 1 + 1 = m by omega] at ht
    rw [show (fun i => if m = 0 then (0 : Int) else ca n A (m - 1) i i) = fun i => ca n A (m - 1) i i from funext fun i => if_neg h0, ht, show ((n - m : Nat) : Int) = (n : Int) - m by omega, Int.sub_mul]
    omega
end Go.Ch
/- How far the numbers of Hermite's form grow: by the pivots that are found. No program here. -/
namespace Go.Hp
open Go.Dt Go.Hn Go.Pz Go.Nt Go.Mz Go.En
/-- a bound that grows with each pivot -/
def hq (R K : Nat) : Nat → Nat
  | 0 => K
  | t + 1 => hq R K t * (R + 1 - t)
end Go.Hp
/- The rows that two matrices both have, as lists; what becomes noughts. No program here. -/
namespace Go.Hp
open Go.Dt Go.Hn Go.Pz Go.Nt Go.Mz Go.En
/-! ### multiples, columns -/
def sclL (R C : Nat) (c : Int) (L : List Int) : List Int := tab (R * C) C fun i k => cf L (i * C + k) * c
theorem sclL_len (R C : Nat) (c : Int) (L : List Int) : (sclL R C c L).length = R * C := tab_len _ _ _
theorem sclL_at {R C i k : Nat} {c : Int} {L : List Int} (hi : i < R) (hk : k < C) : mf C (sclL R C c L) i k = mf C L i k * c := cf_tab' _ hk (place_lt hi hk)
/-! ### meets -/
/-! ### sizes of small ones -/
/-! ### what becomes noughts -/
def zeroB (L : List Int) : Bool := decide (∀ j, j < L.length → cf L j = 0)
end Go.Hp
/- Faddeev's and Leverrier's steps: the characteristic polynomial from traces. No program here. -/
namespace Go.Ch
open Go.Dt Go.Pz Go.Nt Go.Mz Go.En Go.Hp
def oneL (n : Nat) : List Int := tab (n * n) n one
def prdL (n : Nat) (a b : List Int) : List Int := tab (n * n) n fun i k => dotS (fun j => cf a (i * n + j)) (fun j => cf b (j * n + k)) n
def sumL (n : Nat) (a b : List Int) : List Int := tab (n * n) n fun i k => cf a (i * n + k) + cf b (i * n + k)
def trcL (n : Nat) (a : List Int) : Nat → Int := fun k => sm k fun i => cf a (i * n + i)
theorem oneL_len (n : Nat) : (oneL n).length = n * n := tab_len _ _ _
theorem prdL_len (n : Nat) (a b : List Int) : (prdL n a b).length = n * n := tab_len _ _ _
theorem sumL_len (n : Nat) (a b : List Int) : (sumL n a b).length = n * n := tab_len _ _ _
theorem nw_01 (i j : Nat) : (List.length (words (one i j).natAbs)) ≤ 1 := by
  unfold one
  split
  · exact nw_small' (by decide)
  · rw [Int.natAbs_zero, words_zero]; exact Nat.zero_le _
theorem oneL_bd (n : Nat) : Bd (oneL n) 1 := Bd_tab fun i j => nw_01 i j
theorem prdL_bd {n K L : Nat} {a b : List Int} (ha : Bd a K) (hb : Bd b L) : Bd (prdL n a b) (K + L + n) := Bd_tab fun i k => dotS_nw (fun j => ha _) (fun j => hb _) n
theorem sumL_bd {n K : Nat} {a b : List Int} (ha : Bd a K) (hb : Bd b K) : Bd (sumL n a b) (K + 1) := Bd_tab fun i k => by
  have h1 := nz_add (cf a (i * n + k)) (cf b (i * n + k))
  have h2 := ha (i * n + k)
  have h3 := hb (i * n + k)
  omega
theorem oneL_at {n i k : Nat} (hi : i < n) (hk : k < n) : mf n (oneL n) i k = one i k := cf_tab' _ hk (place_lt hi hk)
theorem prdL_at {n i k : Nat} {a b : List Int} (hi : i < n) (hk : k < n) : mf n (prdL n a b) i k = sm n fun j => mf n a i j * mf n b j k := by
  show cf _ (i * n + k) = _
  unfold prdL
  rw [cf_tab' _ hk (place_lt hi hk), dotS_sm]; rfl
theorem sumL_at {n i k : Nat} {a b : List Int} (hi : i < n) (hk : k < n) : mf n (sumL n a b) i k = mf n a i k + mf n b i k := cf_tab' _ hk (place_lt hi hk)
theorem mat_ext {n : Nat} {a b : List Int} (ha : a.length = n * n) (hb : b.length = n * n) (h : ∀ i k, i < n → k < n → mf n a i k = mf n b i k) : a = b :=
  ext_cf (by rw [ha, hb]) fun j hj => by
    rw [ha] at hj
    obtain ⟨i, k, hi, hk, rfl⟩ := place_of hj
    exact h i k hi hk
/-! ### the steps -/
noncomputable def flM (n : Nat) (L : List Int) (k : Nat) : List Int := tab (n * n) n fun i j => ca n (mf n L) (n - k) i j
noncomputable def flC (n : Nat) (L : List Int) (k : Nat) : Int := cp n (mf n L) (n - k)
theorem flM_len (n : Nat) (L : List Int) (k : Nat) : (flM n L k).length = n * n := tab_len _ _ _
theorem flM_at {n i j : Nat} {L : List Int} {k : Nat} (hi : i < n) (hj : j < n) : mf n (flM n L k) i j = ca n (mf n L) (n - k) i j := cf_tab' _ hj (place_lt hi hj)
theorem fl_one {n : Nat} {L : List Int} (hn : 0 < n) : flM n L 1 = oneL n := mat_ext (flM_len _ _ _) (oneL_len n) fun i k hi hk => by
  rw [flM_at hi hk, oneL_at hi hk]
  have h := ca_rec (mf n L) (Nat.le_refl n) hi hk
  rw [if_neg (by omega), sm_zero fun j _ => by rw [ca_top (mf n L) j hk, Int.mul_zero], cp_top] at h
  unfold one
  omega
theorem fl_tr {n k : Nat} {L : List Int} (h1 : 1 ≤ k) (h2 : k ≤ n) : trcL n (prdL n L (flM n L k)) n = -((k : Int) * flC n L k) := by
  have h := ca_atr (n := n) (mf n L) (m := n - k) (by omega)
  rw [show n - (n - k) = k by omega] at h
  unfold flC
  rw [← h]
  exact sm_congr fun i hi => by
    show mf n (prdL n L (flM n L k)) i i = _
    rw [prdL_at hi hi]
    exact sm_congr fun j hj => by rw [flM_at hj hi]
theorem fl_next {n k : Nat} {L : List Int} (h1 : 1 ≤ k) (h2 : k < n) : sumL n (prdL n L (flM n L k)) (sclL n n (flC n L k) (oneL n)) = flM n L (k + 1) := mat_ext (sumL_len _ _ _) (flM_len _ _ _) fun i j hi hj => by
  rw [sumL_at hi hj, prdL_at hi hj, sclL_at hi hj, oneL_at hi hj, flM_at hi hj]
  have h := ca_rec (mf n L) (m := n - k) (by omega) hi hj
  rw [if_neg (by omega)] at h
  have e : (sm n fun r => mf n L i r * mf n (flM n L k) r j) = sm n fun r => mf n L i r * ca n (mf n L) (n - k) r j := sm_congr fun r hr => by rw [flM_at hr hj]
  rw [e, show n - (k + 1) = n - k - 1 by omega]
  unfold one flC
  by_cases g : i = j
  · rw [if_pos g] at h ⊢; omega
  · rw [if_neg g] at h ⊢; omega
/-! ### sizes -/
def flB (n K k : Nat) : Nat := 1 + (k - 1) * (K + 2 * n + 1)
theorem fl_cbd {n K k B : Nat} {L : List Int} (hb : Bd L K) (hm : Bd (flM n L k) B) (h1 : 1 ≤ k) (h2 : k ≤ n) : (List.length (words (flC n L k).natAbs)) ≤ K + B + 2 * n := by
  have ht := fl_tr (L := L) h1 h2
  have hs : (List.length (words (trcL n (prdL n L (flM n L k)) n).natAbs)) ≤ K + B + n + n := sm_nw (fun i => prdL_bd hb hm _) n
  rw [ht, Int.natAbs_neg, Int.natAbs_mul, Int.natAbs_natCast] at hs
  refine Nat.le_trans (nw_mono (Nat.le_mul_of_pos_left _ h1)) ?_
  omega
theorem fl_bd {n K : Nat} {L : List Int} (hb : Bd L K) : ∀ k, 1 ≤ k → k ≤ n → Bd (flM n L k) (flB n K k)
  | 0, h, _ => absurd h (by decide)
  | 1, _, h => by rw [fl_one h]; exact (oneL_bd n).mono (by unfold flB; omega)
  | k + 2, _, h => by
    have ih := fl_bd hb (k + 1) (Nat.succ_pos k) (Nat.le_of_succ_le h)
    have e := fl_next (n := n) (k := k + 1) (L := L) (Nat.succ_pos k) h
    show Bd (flM n L (k + 1 + 1)) _
    rw [← e]
    have hc := fl_cbd (n := n) (k := k + 1) hb ih (Nat.succ_pos k) (Nat.le_of_succ_le h)
    have hs : Bd (sclL n n (flC n L (k + 1)) (oneL n)) (K + flB n K (k + 1) + 2 * n) := Bd_tab fun i j => by
      rcases Nat.lt_or_ge (i * n + j) (n * n) with g | g
      · obtain ⟨i', j', hi, hj, e⟩ := place_of g
        rw [e, show cf (oneL n) (i' * n + j') = one i' j' from oneL_at hi hj]
        unfold one
        split
        · rw [Int.one_mul]; exact hc
        · rw [Int.zero_mul, Int.natAbs_zero, words_zero]; exact Nat.zero_le _
      · rw [cf_high (by rw [oneL_len]; exact g), Int.zero_mul, Int.natAbs_zero, words_zero]; exact Nat.zero_le _
    refine (sumL_bd ((prdL_bd hb ih).mono (show K + flB n K (k + 1) + n ≤ K + flB n K (k + 1) + 2 * n by omega)) hs).mono ?_
    have e2 : (k + 2 - 1) * (K + 2 * n + 1) = (k + 1 - 1) * (K + 2 * n + 1) + (K + 2 * n + 1) := by rw [show k + 2 - 1 = (k + 1 - 1) + 1 by omega, Nat.add_mul, Nat.one_mul]
    unfold flB
    rw [e2]
    omega
/-- the polynomial's numbers, from the power 0 on -/
noncomputable def chL (n : Nat) (L : List Int) : List Int := (List.range (n + 1)).map (cp n (mf n L))
theorem chL_len (n : Nat) (L : List Int) : (chL n L).length = n + 1 := by unfold chL; rw [List.length_map, List.length_range]
theorem chL_at {n i : Nat} {L : List Int} (h : i ≤ n) : cf (chL n L) i = cp n (mf n L) i := by unfold chL; rw [cf_tab, if_pos (by omega)]
theorem chL_bd {n K : Nat} {L : List Int} (hb : Bd L K) : Bd (chL n L) (K + flB n K n + 2 * n + 1) := fun i => by
  unfold chL
  rw [cf_tab]
  split
  · rename_i hi
    rcases Nat.lt_or_ge i n with g | g
    · have h := fl_cbd (n := n) (k := n - i) hb (fl_bd (n := n) hb (n - i) (by omega) (by omega)) (by omega) (by omega)
      unfold flC at h
      rw [show n - (n - i) = i by omega] at h
      refine Nat.le_trans h ?_
      have : flB n K (n - i) ≤ flB n K n := by unfold flB; exact Nat.add_le_add_left (Nat.mul_le_mul_right _ (by omega)) _
      omega
    · rw [show i = n by omega, cp_top]
      exact Nat.le_trans (nw_small' (by decide)) (by omega)
  · rw [Int.natAbs_zero, words_zero]; exact Nat.zero_le _
/-- the list as it is filled, from its end on -/
noncomputable def qF (n : Nat) (L : List Int) (k : Nat) : List (Bool × List Nat) := (List.range (n + 1)).map fun i => if n + 1 ≤ i + k then nz (cp n (mf n L) i) else (false, [])
theorem qF_len (n : Nat) (L : List Int) (k : Nat) : (qF n L k).length = n + 1 := by unfold qF; rw [List.length_map, List.length_range]
theorem qF_get {n i : Nat} (L : List Int) (k : Nat) (h : i < n + 1) : (qF n L k)[i]? = some (if n + 1 ≤ i + k then nz (cp n (mf n L) i) else (false, [])) := by
  unfold qF
  rw [List.getElem?_map, List.getElem?_range h]; rfl
theorem qF_ext {n : Nat} {a b : List (Bool × List Nat)} (ha : a.length = n + 1) (hb : b.length = n + 1) (h : ∀ i, i < n + 1 → a[i]? = b[i]?) : a = b := List.ext_getElem? fun i => by
  rcases Nat.lt_or_ge i (n + 1) with g | g
  · exact h i g
  · rw [List.getElem?_eq_none (by omega), List.getElem?_eq_none (by omega)]
theorem qF_set {n k : Nat} {L : List Int} (h : k ≤ n) : (qF n L k).set (n - k) (nz (cp n (mf n L) (n - k))) = qF n L (k + 1) :=
  qF_ext (by rw [List.length_set, qF_len]) (qF_len _ _ _) fun i hi => by
    rw [qF_get L (k + 1) hi]
    by_cases e : n - k = i
    · rw [← e, List.getElem?_set_self (by rw [qF_len]; omega), if_pos (by omega)]
    · rw [List.getElem?_set_ne e, qF_get L k hi]
      by_cases g : n + 1 ≤ i + k
      · rw [if_pos g, if_pos (by omega)]
      · rw [if_neg g, if_neg (by omega)]
theorem qF_zero (n : Nat) (L : List Int) : qF n L 0 = List.replicate (n + 1) (false, []) :=
  qF_ext (qF_len _ _ _) List.length_replicate fun i hi => by
    rw [qF_get L 0 hi, List.getElem?_replicate, if_pos hi, if_neg (by omega)]
theorem qF_one (n : Nat) (L : List Int) : (List.replicate (n + 1) ((false, []) : Bool × List Nat)).set n (nz 1) = qF n L 1 := by
  rw [← qF_zero n L]
  have := qF_set (n := n) (k := 0) (L := L) (Nat.zero_le _)
  rw [Nat.sub_zero, cp_top] at this
  exact this
theorem qF_done (n : Nat) (L : List Int) : qF n L (n + 1) = (chL n L).map nz := by
  unfold qF chL
  rw [List.map_map]
  exact List.map_congr_left fun i _ => if_pos (Nat.le_add_left _ _)
theorem chL_norm (n : Nat) (L : List Int) : pnorm (chL n L) = chL n L := by
  have h := take_norm (l := chL n L) (n := n + 1) (.inr (by rw [Nat.add_sub_cancel, chL_at (Nat.le_refl n), cp_top]; decide)) (fun i hi => cf_high (by rw [chL_len]; exact hi))
  rw [List.take_of_length_le (by rw [chL_len]; exact Nat.le_refl _)] at h
  exact h.symm
end Go.Ch
/- Powers of a matrix; values of polynomials at it; the characteristic one's is noughts. No program here. -/
namespace Go.Ch
open Go.Dt Go.Pz Go.Nt Go.Mz Go.En Go.Hp
def pwL (n : Nat) (L : List Int) : Nat → List Int
  | 0 => oneL n
  | k + 1 => prdL n (pwL n L k) L
theorem pwL_len (n : Nat) (L : List Int) : ∀ k, (pwL n L k).length = n * n
  | 0 => oneL_len n
  | _ + 1 => prdL_len n _ _
theorem pwL_bd {n K : Nat} {L : List Int} (h : Bd L K) : ∀ k, Bd (pwL n L k) (1 + k * (K + n))
  | 0 => (oneL_bd n).mono (by omega)
  | k + 1 => (prdL_bd (pwL_bd h k) h).mono (by rw [Nat.succ_mul]; omega)
/-! ### values -/
def zerL (n : Nat) : List Int := tab (n * n) n fun _ _ => 0
theorem zerL_at {n i k : Nat} (hi : i < n) (hk : k < n) : mf n (zerL n) i k = 0 := cf_tab' _ hk (place_lt hi hk)
theorem zerL_bd (n : Nat) : Bd (zerL n) 0 := Bd_tab fun _ _ => by rw [Int.natAbs_zero, words_zero]; exact Nat.zero_le _
/-- Horner's steps -/
def evG (n : Nat) (L q : List Int) : Nat → List Int
  | 0 => zerL n
  | j + 1 => sumL n (prdL n (evG n L q j) L) (sclL n n (cf q (q.length - 1 - j)) (oneL n))
theorem evG_len (n : Nat) (L q : List Int) : ∀ j, (evG n L q j).length = n * n
  | 0 => by unfold evG zerL; exact tab_len _ _ _
  | _ + 1 => sumL_len n _ _
theorem scl_one_bd {n K : Nat} {c : Int} (h : (List.length (words c.natAbs)) ≤ K) : Bd (sclL n n c (oneL n)) K := Bd_tab fun i j => by
  rcases Nat.lt_or_ge (i * n + j) (n * n) with g | g
  · obtain ⟨i', j', hi, hj, e⟩ := place_of g
    rw [e, show cf (oneL n) (i' * n + j') = one i' j' from oneL_at hi hj]
    unfold one
    split
    · rw [Int.one_mul]; exact h
    · rw [Int.zero_mul, Int.natAbs_zero, words_zero]; exact Nat.zero_le _
  · rw [cf_high (by rw [oneL_len]; exact g), Int.zero_mul, Int.natAbs_zero, words_zero]; exact Nat.zero_le _
theorem evG_bd {n K Q : Nat} {L q : List Int} (h : Bd L K) (hq : Bd q Q) : ∀ j, Bd (evG n L q j) (Q + j * (K + n + 1))
  | 0 => (zerL_bd n).mono (Nat.zero_le _)
  | j + 1 => by
    refine (sumL_bd (prdL_bd (evG_bd h hq j) h) ((scl_one_bd (hq _)).mono (show Q ≤ Q + j * (K + n + 1) + K + n by omega))).mono ?_
    rw [Nat.succ_mul]; omega
theorem evG_at {n : Nat} {L q : List Int} {r c : Nat} (hr : r < n) (hc : c < n) : ∀ {j : Nat}, j ≤ q.length → mf n (evG n L q j) r c = sm j fun m => cf q (q.length - j + m) * mf n (pwL n L m) r c
  | 0, _ => zerL_at hr hc
  | j + 1, hj => by
    show mf n (sumL n (prdL n (evG n L q j) L) (sclL n n (cf q (q.length - 1 - j)) (oneL n))) r c = _
    rw [sumL_at hr hc, prdL_at hr hc, sclL_at hr hc, sm_left]
    have e0 : mf n (pwL n L 0) r c = mf n (oneL n) r c := rfl
    rw [e0, Nat.add_zero, show q.length - (j + 1) = q.length - 1 - j by omega, Int.mul_comm (mf n (oneL n) r c), Int.add_comm]
    congr 1
    rw [sm_congr (g := fun i => sm j fun m => cf q (q.length - j + m) * (mf n (pwL n L m) r i * mf n L i c)) fun i hi => by
      rw [evG_at hr hi (by omega), Int.mul_comm, ← sm_smul]
      exact sm_congr fun m _ => by grind]
    rw [sm_swap]
    refine sm_congr fun m _ => ?_
    rw [sm_smul, show q.length - 1 - j + (m + 1) = q.length - j + m by omega]
    congr 1
    exact (prdL_at hr hc).symm
/-- the sum of numbers times powers -/
def vlL (n : Nat) (L q : List Int) (d : Nat) : List Int := tab (n * n) n fun r c => sm d fun m => cf q m * cf (pwL n L m) (r * n + c)
theorem vlL_len (n : Nat) (L q : List Int) (d : Nat) : (vlL n L q d).length = n * n := tab_len _ _ _
theorem evG_vl (n : Nat) (L q : List Int) : evG n L q q.length = vlL n L q q.length := mat_ext (evG_len n L q _) (vlL_len n L q _) fun r c hr hc => by
  rw [evG_at hr hc (Nat.le_refl _)]
  show _ = cf _ (r * n + c)
  unfold vlL
  rw [cf_tab' _ hc (place_lt hr hc), Nat.sub_self]
  exact sm_congr fun m _ => by rw [Nat.zero_add]; rfl
theorem vlL_at (n : Nat) (L q : List Int) (d : Nat) {k : Nat} (hk : k < n * n) : cf (vlL n L q d) k = sm d fun m => cf q m * cf (pwL n L m) k := by
  obtain ⟨i, j, hi, hj, rfl⟩ := place_of hk
  exact cf_tab' _ hj (place_lt hi hj)
/-- Cayley and Hamilton -/
theorem cay_ham (n : Nat) (L : List Int) : evG n L (chL n L) (chL n L).length = zerL n := mat_ext (evG_len n L _ _) (tab_len _ _ _) fun r c hr hc => by
  rw [evG_at hr hc (Nat.le_refl _), zerL_at hr hc, chL_len, Nat.sub_self]
  have key : ∀ t, t ≤ n + 1 → (sm t fun m => cf (chL n L) (0 + m) * mf n (pwL n L m) r c) = -(if t = 0 then 0 else sm n fun j => mf n (pwL n L t) r j * ca n (mf n L) (t - 1) j c) := by
    intro t
    induction t with
    | zero => intro _; rfl
    | succ t ih =>
      intro ht
      have e : (sm n fun j => mf n (pwL n L (t + 1)) r j * ca n (mf n L) t j c) = sm n fun i => 1 * (mf n (pwL n L t) r i * if t = 0 then 0 else ca n (mf n L) (t - 1) i c) + -1 * (mf n (pwL n L t) r i * if i = c then cp n (mf n L) t else 0) := by
        rw [sm_congr (g := fun j => sm n fun i => mf n (pwL n L t) r i * (mf n L i j * ca n (mf n L) t j c)) fun j hj => by
          rw [show mf n (pwL n L (t + 1)) r j = sm n fun i => mf n (pwL n L t) r i * mf n L i j from prdL_at hr hj, Int.mul_comm, ← sm_smul]
          exact sm_congr fun i _ => by grind]
        rw [sm_swap]
        refine sm_congr fun i hi => ?_
        have h := ca_rec (mf n L) (show t ≤ n by omega) hi hc
        rw [sm_smul]
        have h2 : (sm n fun j => mf n L i j * ca n (mf n L) t j c) = (if t = 0 then 0 else ca n (mf n L) (t - 1) i c) - if i = c then cp n (mf n L) t else 0 := by omega
        rw [h2, Int.mul_sub]; omega
      have e2 : (sm n fun i => mf n (pwL n L t) r i * if i = c then cp n (mf n L) t else 0) = cp n (mf n L) t * mf n (pwL n L t) r c := by
        rw [sm_one (c := c) hc fun i _ hne => by rw [if_neg hne, Int.mul_zero], if_pos rfl, Int.mul_comm]
      show (sm t fun m => cf (chL n L) (0 + m) * mf n (pwL n L m) r c) + cf (chL n L) (0 + t) * mf n (pwL n L t) r c = -(if t + 1 = 0 then 0 else sm n fun j => mf n (pwL n L (t + 1)) r j * ca n (mf n L) t j c)
      rw [ih (by omega), if_neg (Nat.succ_ne_zero t), e, sm_lin, e2, Nat.zero_add, chL_at (by omega)]
      by_cases h0 : t = 0
      · simp only [if_pos h0]
        rw [sm_zero fun i _ => by rw [Int.mul_zero]]; omega
      · simp only [if_neg h0]; omega
  rw [key (n + 1) (Nat.le_refl _), if_neg (Nat.succ_ne_zero n), Nat.add_sub_cancel, sm_zero fun j _ => by rw [ca_top (mf n L) j hc, Int.mul_zero]]; rfl
end Go.Ch
/- Contracts: matrices of noughts and ones, sums. -/
namespace Go.Proofs.Ytgkbekcpmbjbdaa
open Go.En Go.RowKit
set_option linter.unusedVariables false
set_option maxRecDepth 10000
open Go.Nt
open Go.Pz
open Go.Mz
open Go.Hn
open Go.Hp
open Go.Dt
open Go.Ch
set_option maxHeartbeats 4000000 in
theorem zmat_Identity_1 {i k : Nat} : Ctr Try.prog 107 [isI (i : Int), isI (k : Int)] (Flat (zc (nz (one i k)))) := by
  refine Ctr.intro Try.func107 rfl (by kernel_rfl) Try.ntmps107 rfl fun w0 F0 => ?_
  refine Tri.cv (Cv.wk (.cons (t := 0) (Has.t rfl) (.cons (t := 1) (Has.t rfl) .nil))) ?_
  refine Tri.fact (Has.rngI (Has.t (t := 0) rfl)) fun lt0 => ?_
  refine Tri.fact (Has.rngI (Has.t (t := 1) rfl)) fun lt1 => ?_
  refine Tri.seq fun K1 hK1 => ?_
  refine Tri.region ?_
  refine Ops.alloc [isB false, SlM isU []] zero44 (fun _ _ => ⟨rfl, nilM _ _, trivial⟩) rfl fun b1 => ?_
  refine nl ?_
  refine At.thn (hK1 _ _ ?_); clear hK1
  refine Tri.seq fun K2 hK2 => ?_
  refine Tri.seq fun K3 hK3 => ?_
  refine Tri.region ?_
  refine st (OK1.mv (Has.t rfl)) rfl ?_
  refine st (OK1.mv (Has.t rfl)) rfl ?_
  refine st (OK1.eqI (Has.t rfl) (Has.t rfl)) rfl ?_
  refine nl ?_
  refine At.thn (hK3 _ _ ?_); clear hK3
  refine Tri.cond (Has.t rfl) (fun hc1 => ?_) (fun hc1 => ?_)
  · have hc1 := BP.t hc1
    refine Tri.seq fun K4 hK4 => ?_
    refine Tri.region ?_
    refine st (OK1.call (zint_Of) (.cons (Has.cI 1 rfl) .nil)) rfl ?_
    refine Ops.store (Has.t rfl) (Has.t rfl) (i := 0) rfl ty44 rfl rfl (Ss' := [_, _]) rfl (M' := [(some _, cellM [_, _])]) rfl ?_
    refine nl ?_
    refine At.thn (hK4 _ _ ?_); clear hK4
    refine Tri.cv (Cv.wk (.cons (t := 4) (Has.t rfl) .nil)) ?_
    refine Tri.ret ?_
    refine At.thr ?_
    refine rt1 (.inl rfl) Try.results107 rfl (.cell rfl (i := 0) rfl ty44 rfl ?_ .nil)
    all_goals (exact isZ_eq (show (1 : Int) = one i k by unfold one; rw [if_pos (by omega)]))
  · have hc1 := BP.f hc1
    refine Tri.skip ?_
    refine At.thn (hK2 _ _ ?_); clear hK2
    refine Tri.cv (Cv.wk (.cons (t := 4) (Has.t rfl) .nil)) ?_
    refine Tri.seq fun K5 hK5 => ?_
    refine Tri.region ?_
    refine st (OK1.build [isB false, SlM isU []] pl44 zero44 (fun _ _ => ⟨rfl, nilM _ _, trivial⟩) .nil (Z'' := [_, _]) rfl) rfl ?_
    refine Ops.store (Has.t rfl) (Has.t rfl) (i := 0) rfl ty44 rfl rfl (Ss' := [_, _]) rfl (M' := [(some _, cellM [_, _])]) rfl ?_
    refine nl ?_
    refine At.thn (hK5 _ _ ?_); clear hK5
    refine Tri.ret ?_
    refine rt1 (.inl rfl) Try.results107 rfl (.cell rfl (i := 0) rfl ty44 rfl ?_ .nil)
    all_goals (exact isZ0.trans (isZ_eq (show (0 : Int) = one i k by unfold one; rw [if_neg (by omega)])))
set_option maxHeartbeats 4000000 in
theorem zmat_Identity {n : Nat} (hn : n ≤ 64) : Ctr Try.prog 55 [isI (n : Int)] (isTup [isMz n n (oneL n), isI 0]) := by
  refine Ctr.intro Try.func55 rfl (by kernel_rfl) Try.ntmps55 rfl fun w0 F0 => ?_
  refine Tri.cv (Cv.wk (.cons (t := 0) (Has.t rfl) .nil)) ?_
  refine Tri.fact (Has.rngI (Has.t (t := 0) rfl)) fun lt0 => ?_
  refine Tri.seq fun K1 hK1 => ?_
  refine Tri.region ?_
  refine Ops.alloc [isI 0, isI 0, nilS] zero24 (fun _ _ => ⟨⟨rfl, by decide, by decide⟩, ⟨rfl, by decide, by decide⟩, rfl, trivial⟩) rfl fun b1 => ?_
  refine st (OK1.as (Has.cI 0 rfl)) rfl ?_
  refine nl ?_
  refine At.thn (hK1 _ _ ?_); clear hK1
  refine Tri.seq fun K2 hK2 => ?_
  refine Tri.seq fun K3 hK3 => ?_
  refine Tri.region ?_
  refine st (OK1.mv (Has.t rfl)) rfl ?_
  refine st (OK1.eq (OK1.call (zmat_side) (.cons (Has.t rfl) .nil)) ((show isB _ = isB true from isB_eq (by simp; omega)))) rfl ?_
  refine st (OK1.not (Has.t rfl)) rfl ?_
  refine nl ?_
  refine At.thn (hK3 _ _ ?_); clear hK3
  refine Tri.cond (Has.t rfl) (fun hc1 => ?_) (fun hc1 => ?_)
  · have hc1 := BP.t hc1
    exfalso; simp at hc1
  · have hc1 := BP.f hc1
    refine Tri.skip ?_
    refine At.thn (hK2 _ _ ?_); clear hK2
    refine Tri.seq fun K4 hK4 => ?_
    refine Tri.region ?_
    refine st (OK1.mv (Has.t rfl)) rfl ?_
    refine st (OK1.mv (Has.t rfl)) rfl ?_
    refine st (OK1.call (zmat_made (f := fun i k => nz (one i k)) hn hn (fun i k _ _ => by rw [val_words]; exact Nat.le_trans (nw_01 i k) (by decide))) (.cons (Has.t rfl) (.cons (Has.t rfl) (.cons (Has.fn (fun p => zmat_Identity_1)) .nil)))) rfl ?_
    refine Ops.store (Has.t rfl) (Has.t rfl) (i := 0) rfl ty24 rfl rfl (Ss' := [_, _, _]) rfl (M' := [(some _, cellM [_, _, _])]) rfl ?_
    refine st (OK1.as (Has.cI 0 rfl)) rfl ?_
    refine nl ?_
    refine At.thn (hK4 _ _ ?_); clear hK4
    refine Tri.cv (Cv.wk (.cons (t := 2) (Has.t rfl) (.cons (t := 3) (Has.t rfl) .nil))) ?_
    refine Tri.ret ?_
    refine rtN (.inl rfl) Try.results55 rfl rfl (.cell rfl (i := 0) rfl ty24 rfl ?_ (.tmp (Has.t' rfl ?_) .nil))
    · exact isMz_eq (by rw [zvz one]; rfl)
    · rfl
set_option maxHeartbeats 4000000 in
theorem zmat_New_1 {i k : Nat} : Ctr Try.prog 110 [isI (i : Int), isI (k : Int)] (Flat (zc (nz 0))) := by
  refine Ctr.intro Try.func110 rfl (by kernel_rfl) Try.ntmps110 rfl fun w0 F0 => ?_
  refine Tri.cv (Cv.wk (.cons (t := 0) (Has.t rfl) (.cons (t := 1) (Has.t rfl) .nil))) ?_
  refine Tri.fact (Has.rngI (Has.t (t := 0) rfl)) fun lt0 => ?_
  refine Tri.fact (Has.rngI (Has.t (t := 1) rfl)) fun lt1 => ?_
  refine Tri.seq fun K1 hK1 => ?_
  refine Tri.region ?_
  refine Ops.alloc [isB false, SlM isU []] zero44 (fun _ _ => ⟨rfl, nilM _ _, trivial⟩) rfl fun b1 => ?_
  refine nl ?_
  refine At.thn (hK1 _ _ ?_); clear hK1
  refine Tri.seq fun K2 hK2 => ?_
  refine Tri.region ?_
  refine st (OK1.build [isB false, SlM isU []] pl44 zero44 (fun _ _ => ⟨rfl, nilM _ _, trivial⟩) .nil (Z'' := [_, _]) rfl) rfl ?_
  refine Ops.store (Has.t rfl) (Has.t rfl) (i := 0) rfl ty44 rfl rfl (Ss' := [_, _]) rfl (M' := [(some _, cellM [_, _])]) rfl ?_
  refine nl ?_
  refine At.thn (hK2 _ _ ?_); clear hK2
  refine Tri.ret ?_
  refine rt1 (.inl rfl) Try.results110 rfl (.cell rfl (i := 0) rfl ty44 rfl ?_ .nil)
  all_goals (exact isZ0)
set_option maxHeartbeats 4000000 in
theorem zmat_New {n : Nat} (hn : n ≤ 64) : Ctr Try.prog 61 [isI (n : Int), isI (n : Int)] (isTup [isMz n n (zerL n), isI 0]) := by
  refine Ctr.intro Try.func61 rfl (by kernel_rfl) Try.ntmps61 rfl fun w0 F0 => ?_
  refine Tri.cv (Cv.wk (.cons (t := 0) (Has.t rfl) (.cons (t := 1) (Has.t rfl) .nil))) ?_
  refine Tri.fact (Has.rngI (Has.t (t := 0) rfl)) fun lt0 => ?_
  refine Tri.fact (Has.rngI (Has.t (t := 1) rfl)) fun lt1 => ?_
  refine Tri.seq fun K1 hK1 => ?_
  refine Tri.region ?_
  refine Ops.alloc [isI 0, isI 0, nilS] zero24 (fun _ _ => ⟨⟨rfl, by decide, by decide⟩, ⟨rfl, by decide, by decide⟩, rfl, trivial⟩) rfl fun b1 => ?_
  refine st (OK1.as (Has.cI 0 rfl)) rfl ?_
  refine nl ?_
  refine At.thn (hK1 _ _ ?_); clear hK1
  refine Tri.seq fun K2 hK2 => ?_
  refine Tri.seq fun K3 hK3 => ?_
  refine Tri.region ?_
  refine st (OK1.mv (Has.t rfl)) rfl ?_
  refine st (OK1.eq (OK1.call (zmat_side) (.cons (Has.t rfl) .nil)) ((show isB _ = isB true from isB_eq (by simp; omega)))) rfl ?_
  refine st (OK1.not (Has.t rfl)) rfl ?_
  refine st (OK1.mv (Has.t rfl)) rfl ?_
  refine stF rfl rfl (fun hg => have hg' := BP.t hg; OK1.mv (Has.t rfl)) rfl ?_
  refine stF rfl rfl (fun hg => have hg' := BP.t hg; OK1.eq (OK1.call (zmat_side) (.cons (Has.g rfl hg) .nil)) ((show isB _ = isB true from isB_eq (by simp; omega)))) rfl ?_
  refine stF rfl rfl (fun hg => have hg' := BP.t hg; OK1.not (Has.g rfl hg)) rfl ?_
  refine st (OK1.pickOr (Has.t rfl) (fun h => Has.g rfl (ng h))) rfl ?_
  refine nl ?_
  refine At.thn (hK3 _ _ ?_); clear hK3
  refine Tri.cv (Cv.wk (.cons (t := 0) (Has.t rfl) (.cons (t := 1) (Has.t rfl) (.cons (t := 4) (Has.t rfl) (.cons (t := 5) (Has.t rfl) (.cons (t := 13) (Has.t rfl) .nil)))))) ?_
  refine Tri.cond (Has.t rfl) (fun hc1 => ?_) (fun hc1 => ?_)
  · have hc1 := BP.t hc1
    exfalso; simp at hc1
  · have hc1 := BP.f hc1
    refine Tri.skip ?_
    refine At.thn (hK2 _ _ ?_); clear hK2
    refine Tri.seq fun K4 hK4 => ?_
    refine Tri.region ?_
    refine st (OK1.mv (Has.t rfl)) rfl ?_
    refine st (OK1.mv (Has.t rfl)) rfl ?_
    refine st (OK1.call (zmat_made (f := fun _ _ => nz 0) hn hn (fun i k _ _ => by rw [val_words, Int.natAbs_zero, words_zero]; decide)) (.cons (Has.t rfl) (.cons (Has.t rfl) (.cons (Has.fn (fun p => zmat_New_1)) .nil)))) rfl ?_
    refine Ops.store (Has.t rfl) (Has.t rfl) (i := 0) rfl ty24 rfl rfl (Ss' := [_, _, _]) rfl (M' := [(some _, cellM [_, _, _])]) rfl ?_
    refine st (OK1.as (Has.cI 0 rfl)) rfl ?_
    refine nl ?_
    refine At.thn (hK4 _ _ ?_); clear hK4
    refine Tri.cv (Cv.wk (.cons (t := 4) (Has.t rfl) (.cons (t := 5) (Has.t rfl) .nil))) ?_
    refine Tri.ret ?_
    refine rtN (.inl rfl) Try.results61 rfl rfl (.cell rfl (i := 0) rfl ty24 rfl ?_ (.tmp (Has.t' rfl ?_) .nil))
    · exact isMz_eq (by rw [zvz fun _ _ => 0]; rfl)
    · rfl
set_option maxHeartbeats 4000000 in
theorem zmat_Add_1 {r0 r1 : Int} {C i k K : Nat} {xs ys : List (Bool × List Nat)} (hx : Bd (vals xs) K) (hy : Bd (vals ys) K) (hK : K ≤ 400000000) (hxm : xs.length ≤ 4096) (hp : i * C + k < xs.length) (hym : ys.length ≤ 4096) (hq : i * C + k < ys.length) : Ctr Try.prog 111 [isI (i : Int), isI (k : Int), ptM r0 (C : Int) xs, ptM r1 (C : Int) ys] (Flat (zc (nz (cf (vals xs) (i * C + k) + cf (vals ys) (i * C + k))))) := by
  refine Ctr.intro Try.func111 rfl (by kernel_rfl) Try.ntmps111 rfl fun w0 F0 => ?_
  refine Tri.cv (Cv.wk (.cons (t := 0) (Has.t rfl) (.cons (t := 1) (Has.t rfl) (.cons (t := 2) (Has.t rfl) (.cons (t := 3) (Has.t rfl) .nil))))) ?_
  refine Tri.fact (Has.rngI (Has.t (t := 0) rfl)) fun lt0 => ?_
  refine Tri.fact (Has.rngI (Has.t (t := 1) rfl)) fun lt1 => ?_
  have hxr := hx.raw (i * C + k)
  have hyr := hy.raw (i * C + k)
  refine Tri.seq fun K1 hK1 => ?_
  refine Tri.region ?_
  refine Ops.alloc [isB false, SlM isU []] zero44 (fun _ _ => ⟨rfl, nilM _ _, trivial⟩) rfl fun b1 => ?_
  refine nl ?_
  refine At.thn (hK1 _ _ ?_); clear hK1
  refine Tri.seq fun K2 hK2 => ?_
  refine Tri.dr ?_
  refine DrG.st (i := 0) [] rfl rfl rfl (by kernel_rfl) (OKG.o rfl (OK1.loadP (Has.t rfl) ty24 rfl (Ss' := [_, _, _]) rfl)) ?_
  refine DrG.st (i := 1) [] rfl rfl rfl (by kernel_rfl) (OKG.o rfl (OK1.mv (Has.t rfl))) ?_
  refine DrG.st (i := 2) [] rfl rfl rfl (by kernel_rfl) (OKG.o rfl (OK1.mv (Has.t rfl))) ?_
  refine DrG.st (i := 3) [7, 8, 9] rfl rfl rfl (by kernel_rfl) (OKG.o rfl (OK1.call (by first | exact zmat_get (i := i) (k := k) hxm hp | exact zmat_get (i := i) (k := k) hym hq) (.cons (Has.t rfl) (.cons (Has.t rfl) (.cons (Has.t rfl) .nil))))) ?_
  refine DrG.st (i := 4) [] rfl rfl rfl (by kernel_rfl) (OKG.o rfl (OK1.loadP (Has.t rfl) ty24 rfl (Ss' := [_, _, _]) rfl)) ?_
  refine DrG.st (i := 5) [] rfl rfl rfl (by kernel_rfl) (OKG.o rfl (OK1.mv (Has.t rfl))) ?_
  refine DrG.st (i := 6) [] rfl rfl rfl (by kernel_rfl) (OKG.o rfl (OK1.mv (Has.t rfl))) ?_
  refine DrG.fin (n := 7) mixed (by kernel_rfl) (by kernel_rfl) (by kernel_rfl) ?_
  refine Ops.cv (Cv.wk (.cons (t := 6) (Has.t rfl) (.cons (t := 10) (Has.t rfl) (.cons (t := 11) (Has.t rfl) (.cons (t := 12) (Has.t rfl) (.cons (t := 13) (Has.t rfl) .nil)))))) ?_
  refine st (OK1.call (by first | exact zmat_get (i := i) (k := k) hxm hp | exact zmat_get (i := i) (k := k) hym hq) (.cons (Has.t rfl) (.cons (Has.t rfl) (.cons (Has.t rfl) .nil)))) rfl ?_
  refine st (OK1.call (zint_Add (by omega) (by omega)) (.cons (Has.t rfl) (.cons (Has.t rfl) .nil))) rfl ?_
  refine Ops.store (Has.t rfl) (Has.t rfl) (i := 0) rfl ty44 rfl rfl (Ss' := [_, _]) rfl (M' := [(some _, cellM [_, _])]) rfl ?_
  refine nl ?_
  refine At.thn (hK2 _ _ ?_); clear hK2
  refine Tri.cv (Cv.wk (.cons (t := 6) (Has.t rfl) .nil)) ?_
  refine Tri.ret ?_
  refine rt1 (.inl rfl) Try.results111 rfl (.cell rfl (i := 0) rfl ty44 rfl ?_ .nil)
  all_goals (exact isZ_eq (by rw [cf_vals, cf_vals]))
set_option maxHeartbeats 4000000 in
theorem zmat_Add {n K : Nat} {xs ys : List (Bool × List Nat)} (hx : Bd (vals xs) K) (hy : Bd (vals ys) K) (hK : K ≤ 400000000) (hn : n ≤ 64) (hl : xs.length = n * n) (hyl : ys.length = n * n) : Ctr Try.prog 62 [isM (n : Int) (n : Int) xs, isM (n : Int) (n : Int) ys] (isTup [isMz n n (sumL n (vals xs) (vals ys)), isI 0]) := by
  refine Ctr.intro Try.func62 rfl (by kernel_rfl) Try.ntmps62 rfl fun w0 F0 => ?_
  refine Tri.cv (Cv.wk (.cons (t := 0) (Has.t rfl) (.cons (t := 1) (Has.t rfl) .nil))) ?_
  have hRC := side_le hn hn
  have hfa := formB_true hn hn hl
  have hfb := formB_true hn hn hyl
  refine Tri.seq fun K1 hK1 => ?_
  refine Tri.region ?_
  refine Ops.box (Has.t rfl) rfl fun b1 => ?_
  refine Ops.box (Has.t rfl) rfl fun b2 => ?_
  refine Ops.alloc [isI 0, isI 0, nilS] zero24 (fun _ _ => ⟨⟨rfl, by decide, by decide⟩, ⟨rfl, by decide, by decide⟩, rfl, trivial⟩) rfl fun b3 => ?_
  refine st (OK1.as (Has.cI 0 rfl)) rfl ?_
  refine nl ?_
  refine At.thn (hK1 _ _ ?_); clear hK1
  refine Tri.seq fun K2 hK2 => ?_
  refine Tri.seq fun K3 hK3 => ?_
  refine Tri.region ?_
  refine st (OK1.load (Has.t rfl) (i := 2) rfl ty24 rfl (Ss' := [_, _, _]) rfl) rfl ?_
  refine st (OK1.load (Has.t rfl) (i := 1) rfl ty24 rfl (Ss' := [_, _, _]) rfl) rfl ?_
  refine st (OK1.eq (OK1.call (zmat_alike) (.cons (Has.t rfl) (.cons (Has.t rfl) .nil))) ((show isB _ = isB true from isB_eq (by rw [hfa, hfb]; simp)))) rfl ?_
  refine st (OK1.not (Has.t rfl)) rfl ?_
  refine nl ?_
  refine At.thn (hK3 _ _ ?_); clear hK3
  refine Tri.cv (Cv.wk (.cons (t := 2) (Has.t rfl) (.cons (t := 3) (Has.t rfl) (.cons (t := 4) (Has.t rfl) (.cons (t := 5) (Has.t rfl) (.cons (t := 9) (Has.t rfl) .nil)))))) ?_
  refine Tri.cond (Has.t rfl) (fun hc1 => ?_) (fun hc1 => ?_)
  · have hc1 := BP.t hc1
    exfalso; simp at hc1
  · have hc1 := BP.f hc1
    refine Tri.skip ?_
    refine At.thn (hK2 _ _ ?_); clear hK2
    refine Tri.seq fun K4 hK4 => ?_
    refine Tri.region ?_
    refine st (OK1.fieldAddr (Has.t rfl) fld24_0 ty3) rfl ?_
    refine st (OK1.load1 (Has.t rfl) (i := 2) rfl ty3 rfl) rfl ?_
    refine st (OK1.fieldAddr (Has.t rfl) fld24_1 ty3) rfl ?_
    refine st (OK1.load1 (Has.t rfl) (i := 2) rfl ty3 rfl) rfl ?_
    refine Ops.cv (Cv.freezeBox (t := 2) (i := 2) rfl rfl rfl) ?_
    refine Ops.memEq (M' := [_, _]) rfl ?_
    refine Ops.cv (Cv.wk (.cons (t := 2) (Has.t rfl) (.cons (t := 3) (Has.t rfl) (.cons (t := 4) (Has.t rfl) (.cons (t := 5) (Has.t rfl) (.cons (t := 9) (Has.t rfl) (.cons (t := 12) (Has.t rfl) (.cons (t := 14) (Has.t rfl) .nil)))))))) ?_
    refine Ops.cv (Cv.freezeBox (t := 3) (i := 1) rfl rfl rfl) ?_
    refine Ops.memEq (M' := [_]) rfl ?_
    refine Ops.cv (Cv.wk (.cons (t := 2) (Has.t rfl) (.cons (t := 3) (Has.t rfl) (.cons (t := 4) (Has.t rfl) (.cons (t := 5) (Has.t rfl) (.cons (t := 9) (Has.t rfl) (.cons (t := 12) (Has.t rfl) (.cons (t := 14) (Has.t rfl) .nil)))))))) ?_
    refine st (OK1.makeFn (ι := PI n n) (As := fun p => [isI (p.1.1 : Int), isI (p.1.2 : Int)]) (R := fun p => Flat (zc (nz (cf (vals xs) (p.1.1 * n + p.1.2) + cf (vals ys) (p.1.1 * n + p.1.2))))) (fun p => zmat_Add_1 hx hy hK (by omega) (by have := place_lt p.2.1 p.2.2; omega) (by omega) (by have := place_lt p.2.1 p.2.2; omega)) .nil (.cons (Has.t rfl) (.cons (Has.t rfl) .nil))) rfl ?_
    refine st (OK1.call (zmat_made (f := fun i k => nz (cf (vals xs) (i * n + k) + cf (vals ys) (i * n + k))) hn hn (fun i k _ _ => by rw [val_words]; have h1 := nz_add (cf (vals xs) (i * n + k)) (cf (vals ys) (i * n + k)); have h2 := hx (i * n + k); have h3 := hy (i * n + k); omega)) (.cons (Has.t rfl) (.cons (Has.t rfl) (.cons (Has.t rfl) .nil)))) rfl ?_
    refine Ops.store (Has.t rfl) (Has.t rfl) (i := 0) rfl ty24 rfl rfl (Ss' := [_, _, _]) rfl (M' := [(some _, cellM [_, _, _])]) rfl ?_
    refine st (OK1.as (Has.cI 0 rfl)) rfl ?_
    refine nl ?_
    refine At.thn (hK4 _ _ ?_); clear hK4
    refine Tri.cv (Cv.wk (.cons (t := 4) (Has.t rfl) (.cons (t := 5) (Has.t rfl) .nil))) ?_
    refine Tri.ret ?_
    refine rtN (.inl rfl) Try.results62 rfl rfl (.cell rfl (i := 0) rfl ty24 rfl ?_ (.tmp (Has.t' rfl ?_) .nil))
    · exact isMz_eq (by rw [zvz fun i k => cf (vals xs) (i * n + k) + cf (vals ys) (i * n + k)]; rfl)
    · rfl
theorem zM_nil {b : Nat} {x : Int} {M : Mem} (h : x = 0) : ((some b, cellM [isB false, SlM isU []]) :: M : Mem) = zM b x :: M := by
  subst h
  show _ = (some b, cellM [isB (decide ((0 : Int) < 0)), SlM isU (words (0 : Int).natAbs)]) :: M
  rw [Int.natAbs_zero, words_zero]; rfl
set_option maxHeartbeats 4000000 in
theorem zchar_square {r c : Int} {xs : List (Bool × List Nat)} : Ctr Try.prog 52 [isM r c xs] (isB (formB r c xs.length && decide (r = c))) := by
  refine Ctr.intro Try.func52 rfl (by kernel_rfl) Try.ntmps52 rfl fun w0 F0 => ?_
  refine Tri.cv (Cv.wk (.cons (t := 0) (Has.t rfl) .nil)) ?_
  refine Tri.seq fun K1 hK1 => ?_
  refine Tri.region ?_
  refine Ops.box (Has.t rfl) rfl fun b1 => ?_
  refine st (OK1.as (Has.cB false)) rfl ?_
  refine nl ?_
  refine At.thn (hK1 _ _ ?_); clear hK1
  refine Tri.seq fun K2 hK2 => ?_
  refine Tri.region ?_
  refine st (OK1.load (Has.t rfl) (i := 0) rfl ty24 rfl (Ss' := [_, _, _]) rfl) rfl ?_
  refine st (OK1.call (zmat_Formed) (.cons (Has.t rfl) .nil)) rfl ?_
  refine st (OK1.mv (Has.t rfl)) rfl ?_
  refine stT rfl rfl (fun hg => have hg' := BP.t hg; OK1.fieldAddr (Has.t rfl) fld24_0 ty3) rfl ?_
  refine stT rfl rfl (fun hg => have hg' := BP.t hg; OK1.load1 (Has.g rfl hg) (i := 0) rfl ty3 rfl) rfl ?_
  refine stT rfl rfl (fun hg => have hg' := BP.t hg; OK1.fieldAddr (Has.t rfl) fld24_1 ty3) rfl ?_
  refine stT rfl rfl (fun hg => have hg' := BP.t hg; OK1.load1 (Has.g rfl hg) (i := 0) rfl ty3 rfl) rfl ?_
  refine stT rfl rfl (fun hg => have hg' := BP.t hg; OK1.eqI (Has.g rfl hg) (Has.g rfl hg)) rfl ?_
  refine st (OK1.pickAnd (Has.t rfl) (fun h => Has.g rfl h)) rfl ?_
  refine st (OK1.as (Has.t rfl)) rfl ?_
  refine nl ?_
  refine At.thn (hK2 _ _ ?_); clear hK2
  refine Tri.cv (Cv.wk (.cons (t := 2) (Has.t rfl) .nil)) ?_
  refine Tri.ret ?_
  refine rt1 (.inl rfl) Try.results52 rfl (.tmp (Has.t' rfl ?_) .nil)
  all_goals (rfl)
set_option maxHeartbeats 4000000 in
theorem zchar_must {r c e : Int} {xs : List (Bool × List Nat)} : Ctr Try.prog 54 [isM r c xs, isI e] (isM r c xs) := by
  refine Ctr.intro Try.func54 rfl (by kernel_rfl) Try.ntmps54 rfl fun w0 F0 => ?_
  refine Tri.cv (Cv.wk (.cons (t := 0) (Has.t rfl) (.cons (t := 1) (Has.t rfl) .nil))) ?_
  refine Tri.fact (Has.rngI (Has.t (t := 1) rfl)) fun lt1 => ?_
  refine Tri.seq fun K1 hK1 => ?_
  refine Tri.region ?_
  refine Ops.box (Has.t rfl) rfl fun b1 => ?_
  refine Ops.alloc [isI 0, isI 0, nilS] zero24 (fun _ _ => ⟨⟨rfl, by decide, by decide⟩, ⟨rfl, by decide, by decide⟩, rfl, trivial⟩) rfl fun b2 => ?_
  refine nl ?_
  refine At.thn (hK1 _ _ ?_); clear hK1
  refine Tri.seq fun K2 hK2 => ?_
  refine Tri.region ?_
  refine st (OK1.load (Has.t rfl) (i := 1) rfl ty24 rfl (Ss' := [_, _, _]) rfl) rfl ?_
  refine Ops.store (Has.t rfl) (Has.t rfl) (i := 0) rfl ty24 rfl rfl (Ss' := [_, _, _]) rfl (M' := [(some _, cellM [_, _, _]), _]) rfl ?_
  refine nl ?_
  refine At.thn (hK2 _ _ ?_); clear hK2
  refine Tri.ret ?_
  refine rt1 (.inl rfl) Try.results54 rfl (.cell rfl (i := 0) rfl ty24 rfl ?_ .nil)
  all_goals (rfl)
set_option maxHeartbeats 4000000 in
theorem zchar_trace {n K : Nat} {xs : List (Bool × List Nat)} (hx : Bd (vals xs) K) (hK : K ≤ 400000000) (hn : n ≤ 64) (hl : xs.length = n * n) : Ctr Try.prog 69 [isM (n : Int) (n : Int) xs] (isZ (trcL n (vals xs) n)) := by
  refine Ctr.intro Try.func69 rfl (by kernel_rfl) Try.ntmps69 rfl fun w0 F0 => ?_
  refine Tri.cv (Cv.wk (.cons (t := 0) (Has.t rfl) .nil)) ?_
  have hRC := side_le hn hn
  have htn : ∀ k, (List.length (words (trcL n (vals xs) k).natAbs)) ≤ K + k := fun k => sm_nw (fun i => hx _) k
  refine Tri.seq fun K1 hK1 => ?_
  refine Tri.region ?_
  refine Ops.box (Has.t rfl) rfl fun b1 => ?_
  refine Ops.alloc [isB false, SlM isU []] zero44 (fun _ _ => ⟨rfl, nilM _ _, trivial⟩) rfl fun b2 => ?_
  refine nl ?_
  refine At.thn (hK1 _ _ ?_); clear hK1
  refine Tri.seq fun K2 hK2 => ?_
  refine Tri.region ?_
  refine Ops.alloc [isB false, SlM isU []] zero44 (fun _ _ => ⟨rfl, nilM _ _, trivial⟩) rfl fun b3 => ?_
  refine nl ?_
  refine At.thn (hK2 _ _ ?_); clear hK2
  refine Tri.seq fun K3 hK3 => ?_
  refine Tri.seq fun K4 hK4 => ?_
  refine Tri.region ?_
  refine st (OK1.fieldAddr (Has.t rfl) fld24_0 ty3) rfl ?_
  refine st (OK1.load1 (Has.t rfl) (i := 2) rfl ty3 rfl) rfl ?_
  refine st (OK1.mv (Has.cI 0 rfl)) rfl ?_
  refine nl ?_
  refine At.thn (hK4 _ _ ?_); clear hK4
  refine Tri.block ?_
  refine Tri.loopF [1, 2, 3, 6] (fun (z : { k : Nat // k ≤ n }) => match z with | ⟨k, hk⟩ => [(7, isI (k : Int))]) (fun M => fun (z : { k : Nat // k ≤ n }) => match z with | ⟨k, hk⟩ => [zM b3 (trcL n (vals xs) k), (some b2, cellM [isB false, SlM isU []]), (some b1, cellM [isI (n : Int), isI (n : Int), SlK 2 zc xs])]) (fun (z : { k : Nat // k ≤ n }) => match z with | ⟨k, hk⟩ => n - k) (⟨0, Nat.zero_le _⟩) (Cv.mem (.cons (t := 7) (Has.t' rfl ?_) (.cons (t := 1) (Has.t rfl) (.cons (t := 2) (Has.t rfl) (.cons (t := 3) (Has.t rfl) (.cons (t := 6) (Has.t rfl) .nil))))) ?_) ?_
  · rfl
  · exact zM_nil rfl
  rintro ⟨k, hk⟩ K5 hK5
  refine Tri.cv (Cv.wk (.cons (t := 7) (Has.t rfl) (.cons (t := 1) (Has.t rfl) (.cons (t := 2) (Has.t rfl) (.cons (t := 3) (Has.t rfl) (.cons (t := 6) (Has.t rfl) .nil)))))) ?_
  refine Tri.memEq (M' := [zM b3 (trcL n (vals xs) k), (some b2, cellM [isB false, SlM isU []]), (some b1, cellM [isI (n : Int), isI (n : Int), SlK 2 zc xs])]) rfl ?_
  have htk := htn k
  refine Tri.seq fun K6 hK6 => ?_
  refine Tri.region ?_
  refine st (OK1.ltI (Has.t rfl) (Has.t rfl)) rfl ?_
  refine nl ?_
  refine At.thn (hK6 _ _ ?_); clear hK6
  refine Tri.seq fun K7 hK7 => ?_
  refine Tri.cond (Has.t rfl) (fun hc1 => ?_) (fun hc1 => ?_)
  · have hc1 := BP.t hc1
    have hpl := place_lt (show k < n by omega) (show k < n by omega)
    have hxk := hx (k * n + k)
    refine Tri.skip ?_
    refine At.thn (hK7 _ _ ?_); clear hK7
    refine Tri.seq fun K8 hK8 => ?_
    refine Tri.block ?_
    refine Tri.seq fun K9 hK9 => ?_
    refine Tri.region ?_
    refine st (OK1.mv (Has.t rfl)) rfl ?_
    refine st (OK1.as (Has.t rfl)) rfl ?_
    refine nl ?_
    refine At.thn (hK9 _ _ ?_); clear hK9
    refine Tri.dr ?_
    refine DrG.st (i := 0) [] rfl rfl rfl (by kernel_rfl) (OKG.o rfl (OK1.load (Has.t rfl) (i := 0) rfl ty44 rfl (Ss' := [_, _]) rfl)) ?_
    refine DrG.st (i := 1) [] rfl rfl rfl (by kernel_rfl) (OKG.o rfl (OK1.load (Has.t rfl) (i := 2) rfl ty24 rfl (Ss' := [_, _, _]) rfl)) ?_
    refine DrG.st (i := 2) [] rfl rfl rfl (by kernel_rfl) (OKG.o rfl (OK1.mv (Has.t rfl))) ?_
    refine DrG.st (i := 3) [] rfl rfl rfl (by kernel_rfl) (OKG.o rfl (OK1.mv (Has.t rfl))) ?_
    refine DrG.st (i := 4) [11, 12, 13] rfl rfl rfl (by kernel_rfl) (OKG.o rfl (OK1.call (zmat_At (i := k) (k := k) hx (by omega) hn hn hl (by omega) (by omega)) (.cons (Has.t rfl) (.cons (Has.t rfl) (.cons (Has.t rfl) .nil))))) ?_
    refine DrG.fin (n := 5) mixed (by kernel_rfl) (by kernel_rfl) (by kernel_rfl) ?_
    refine Ops.cv (Cv.wk (.cons (t := 1) (Has.t rfl) (.cons (t := 2) (Has.t rfl) (.cons (t := 3) (Has.t rfl) (.cons (t := 6) (Has.t rfl) (.cons (t := 7) (Has.t rfl) (.cons (t := 8) (Has.t rfl) (.cons (t := 9) (Has.t rfl) (.cons (t := 4) (Has.t rfl) (.cons (t := 10) (Has.t rfl) (.cons (t := 11) (Has.t rfl) (.cons (t := 12) (Has.t rfl) (.cons (t := 13) (Has.t rfl) (.cons (t := 14) (Has.t rfl) .nil)))))))))))))) ?_
    refine st (OK1.eq (OK1.call (zint_Add (by rw [val_words]; omega) (by rw [val_words]; omega)) (.cons (Has.t rfl) (.cons (Has.t rfl) .nil))) ((show isZ _ = isZ (trcL n (vals xs) (k + 1)) from isZ_eq (by simp only [zv_nf, zv_nz]; rfl)))) rfl ?_
    refine Ops.store (Has.t rfl) (Has.t rfl) (i := 0) rfl ty44 rfl rfl (Ss' := [_, _]) rfl (M' := [(some _, cellM [_, _]), _, _]) rfl ?_
    refine nl ?_
    refine At.bln ?_
    refine At.thn (hK8 _ _ ?_); clear hK8
    refine Tri.region ?_
    refine st (OK1.addI (Has.t rfl) (Has.cI 1 rfl) (by first | omega | assumption) (by first | omega | assumption)) rfl ?_
    refine st (OK1.mv (Has.t rfl)) rfl ?_
    refine nl ?_
    refine At.thn ?_
    refine hK5 (⟨k + 1, by omega⟩) _ _ ?_ (Cv.mem (.cons (t := 7) (Has.t' rfl ?_) (.cons (t := 1) (Has.t rfl) (.cons (t := 2) (Has.t rfl) (.cons (t := 3) (Has.t rfl) (.cons (t := 6) (Has.t rfl) .nil))))) ?_)
    · show n - (k + 1) < n - k; omega
    · exact isI_eq (by omega)
    · rfl
  · have hc1 := BP.f hc1
    skip
    refine Tri.exit ?_
    refine At.the ?_
    refine At.the ?_
    refine At.blh ?_
    refine At.thn (hK3 _ _ ?_); clear hK3
    refine Tri.seq fun K10 hK10 => ?_
    refine Tri.region ?_
    refine st (OK1.load (Has.t rfl) (i := 0) rfl ty44 rfl (Ss' := [_, _]) rfl) rfl ?_
    refine Ops.store (Has.t rfl) (Has.t rfl) (i := 1) rfl ty44 rfl rfl (Ss' := [_, _]) rfl (M' := [_, (some _, cellM [_, _]), _]) rfl ?_
    refine nl ?_
    refine At.thn (hK10 _ _ ?_); clear hK10
    refine Tri.cv (Cv.wk (.cons (t := 2) (Has.t rfl) .nil)) ?_
    refine Tri.ret ?_
    refine rt1 (.inl rfl) Try.results69 rfl (.cell rfl (i := 1) rfl ty44 rfl ?_ .nil)
    all_goals (rw [show k = n by omega])
end Go.Proofs.Ytgkbekcpmbjbdaa
/- Rows that are turned into Hermite's form: their memory. -/
namespace Go.En
open Go.RowKit Go.Nt Go.Pz Go.Mz
set_option linter.unusedVariables false
section
variable {E : Env} {P : Program} {Γ : Ctx} {M M' : Mem}
end
section
variable {E : Env} {P : Program} {Γ : Ctx} {M : Mem} {ty : TypeId} {pos : String} {after : Array Edge} {gd : Option (Nat × Bool)} {d : Option Tmp}
  {ops : Array Oper} {Q : Exit → Act → World → Prop} {rest : List Oper} {T T' : TypeId} {x y : Operand} {α : Type} {fk : α → List VP} {xs : List α} {k : Nat}
end
theorem isPl_eq {L L' : List Int} (h : L = L') : isP L = isP L' := h ▸ rfl
end Go.En
/- Contracts: where rows begin. -/
namespace Go.Proofs.Ytgkbekcpmbjbdaa
open Go.En Go.RowKit
set_option linter.unusedVariables false
set_option maxRecDepth 10000
open Go.Nt
open Go.Pz
open Go.Mz
open Go.Hn
open Go.Hp
open Go.Dt
set_option maxHeartbeats 4000000 in
theorem sl_IndexFuncZ {xs : List (Bool × List Nat)} {K : Nat} (hx : Bd (vals xs) K) : Ctr Try.prog 115 [SlK 2 zc xs, isFun (ι := { p : Bool × List Nat // (List.length (words (val p.2))) ≤ K }) Try.prog (fun p => [Flat (zc p.1)]) (fun p => isB (decide (zv p.1.1 p.1.2 ≠ 0)))] (isI (fir xs.length (cf (vals xs)))) := by
  refine Ctr.intro Try.func115 rfl (by kernel_rfl) Try.ntmps115 rfl fun w0 F0 => ?_
  refine Tri.cv (Cv.wk (.cons (t := 0) (Has.t rfl) (.cons (t := 1) (Has.t rfl) .nil))) ?_
  refine Tri.fact (Has.lenLt (Has.t (t := 0) rfl)) fun lt0 => ?_
  refine Tri.seq fun K1 hK1 => ?_
  refine Tri.region ?_
  refine st (OK1.as (Has.cI 0 rfl)) rfl ?_
  refine nl ?_
  refine At.thn (hK1 _ _ ?_); clear hK1
  refine Tri.seq fun K2 hK2 => ?_
  refine Tri.seq fun K3 hK3 => ?_
  refine Tri.region ?_
  refine st (OK1.mv (Has.t rfl)) rfl ?_
  refine st (OK1.len sl22 (Has.t rfl)) rfl ?_
  refine st (OK1.mv (Has.cI 0 rfl)) rfl ?_
  refine nl ?_
  refine At.thn (hK3 _ _ ?_); clear hK3
  refine Tri.block ?_
  refine Tri.loopF [0, 1, 7] (fun (z : { i : Nat // i ≤ xs.length ∧ ∀ j, j < i → cf (vals xs) j = 0 }) => match z with | ⟨i, hI⟩ => [(8, isI (i : Int))]) (fun M => fun (z : { i : Nat // i ≤ xs.length ∧ ∀ j, j < i → cf (vals xs) j = 0 }) => match z with | ⟨i, hI⟩ => M) (fun (z : { i : Nat // i ≤ xs.length ∧ ∀ j, j < i → cf (vals xs) j = 0 }) => match z with | ⟨i, hI⟩ => xs.length - i) (⟨0, Nat.zero_le _, fun j hj => absurd hj (Nat.not_lt_zero _)⟩) (Cv.mem (.cons (t := 8) (Has.t' rfl ?_) (.cons (t := 0) (Has.t rfl) (.cons (t := 1) (Has.t rfl) (.cons (t := 7) (Has.t rfl) .nil)))) ?_) ?_
  · rfl
  · rfl
  rintro ⟨i, hi, hq⟩ K4 hK4
  refine Tri.cv (Cv.wk (.cons (t := 8) (Has.t rfl) (.cons (t := 0) (Has.t rfl) (.cons (t := 1) (Has.t rfl) (.cons (t := 7) (Has.t rfl) .nil))))) ?_
  refine Tri.seq fun K5 hK5 => ?_
  refine Tri.region ?_
  refine st (OK1.ltI (Has.t rfl) (Has.t rfl)) rfl ?_
  refine nl ?_
  refine At.thn (hK5 _ _ ?_); clear hK5
  refine Tri.seq fun K6 hK6 => ?_
  refine Tri.cond (Has.t rfl) (fun hc1 => ?_) (fun hc1 => ?_)
  · have hc1 := BP.t hc1
    refine Tri.skip ?_
    refine At.thn (hK6 _ _ ?_); clear hK6
    refine Tri.seq fun K7 hK7 => ?_
    refine Tri.block ?_
    refine Tri.seq fun K8 hK8 => ?_
    refine Tri.region ?_
    refine st (OK1.mv (Has.t rfl)) rfl ?_
    refine st (OK1.as (Has.t rfl)) rfl ?_
    refine nl ?_
    refine At.thn (hK8 _ _ ?_); clear hK8
    refine Tri.seq fun K9 hK9 => ?_
    refine Tri.region ?_
    refine st (OK1.mv (Has.t rfl)) rfl ?_
    refine st (OK1.mv (Has.t rfl)) rfl ?_
    refine st (OK1.mv (Has.t rfl)) rfl ?_
    refine st (OK1.ixK sl22 ty44 (Has.t rfl) (Has.t rfl) zc_len ⟨by omega, by omega⟩ (getD_some (d := (false, [])) (by first | omega | (simp only [Int.toNat_natCast, List.length_set]; omega)))) rfl ?_
    refine st (OK1.loadP (Has.t rfl) ty44 rfl (Ss' := [_, _]) rfl) rfl ?_
    refine st (OK1.eq (OK1.callV ⟨xs.getD i (false, []), hx.raw i⟩ (Has.t rfl) (.cons (Has.t rfl) .nil)) ((show _ = isB (decide (cf (vals xs) i ≠ 0)) from isB_eq (by rw [cf_vals])))) rfl ?_
    refine nl ?_
    refine At.thn (hK9 _ _ ?_); clear hK9
    refine Tri.cond (Has.t rfl) (fun hc2 => ?_) (fun hc2 => ?_)
    · have hc2 := BP.t hc2
      have HQ : cf (vals xs) i ≠ 0 := hc2
      refine Tri.seq fun K10 hK10 => ?_
      refine Tri.region ?_
      refine st (OK1.mv (Has.t rfl)) rfl ?_
      refine st (OK1.as (Has.t rfl)) rfl ?_
      refine nl ?_
      refine At.thn (hK10 _ _ ?_); clear hK10
      refine Tri.ret ?_
      refine At.blr ?_
      refine At.thr ?_
      refine At.thr ?_
      refine At.blr ?_
      refine At.thr ?_
      refine rt1 (.inl rfl) Try.results115 rfl (.tmp (Has.t' rfl ?_) .nil)
      all_goals (exact isI_eq (fir_at (by omega) hq HQ).symm)
    · have hc2 := BP.f hc2
      have HQ : ¬ cf (vals xs) i ≠ 0 := hc2
      refine Tri.skip ?_
      refine At.bln ?_
      refine At.thn (hK7 _ _ ?_); clear hK7
      refine Tri.region ?_
      refine st (OK1.addI (Has.t rfl) (Has.cI 1 rfl) (by first | omega | assumption) (by first | omega | assumption)) rfl ?_
      refine st (OK1.mv (Has.t rfl)) rfl ?_
      refine nl ?_
      refine At.thn ?_
      refine hK4 (⟨i + 1, by omega, fun j hj => by rcases Nat.lt_or_ge j i with h | h; exact hq j h; obtain rfl : j = i := (by omega); exact Classical.not_not.1 HQ⟩) _ _ ?_ (Cv.mem (.cons (t := 8) (Has.t' rfl ?_) (.cons (t := 0) (Has.t rfl) (.cons (t := 1) (Has.t rfl) (.cons (t := 7) (Has.t rfl) .nil)))) ?_)
      · show xs.length - (i + 1) < xs.length - i; omega
      · exact isI_eq (by omega)
      · rfl
  · have hc1 := BP.f hc1
    refine Tri.exit ?_
    refine At.the ?_
    refine At.the ?_
    refine At.blh ?_
    refine At.thn (hK2 _ _ ?_); clear hK2
    refine Tri.cv (Cv.wk .nil) ?_
    refine Tri.seq fun K11 hK11 => ?_
    refine Tri.region ?_
    refine st (OK1.as (Has.cI (-1) rfl)) rfl ?_
    refine nl ?_
    refine At.thn (hK11 _ _ ?_); clear hK11
    refine Tri.ret ?_
    refine rt1 (.inl rfl) Try.results115 rfl (.tmp (Has.t' rfl ?_) .nil)
    all_goals (exact isI_eq (fir_all fun j hj => hq j (by omega)).symm)
end Go.Proofs.Ytgkbekcpmbjbdaa
/- Contracts: what becomes noughts. -/
namespace Go.Proofs.Ytgkbekcpmbjbdaa
open Go.En Go.RowKit
set_option linter.unusedVariables false
set_option maxRecDepth 10000
open Go.Nt
open Go.Pz
open Go.Mz
open Go.Hn
open Go.Hp
open Go.Dt
set_option maxHeartbeats 4000000 in
theorem zmat_Scale_1 {C i k K : Nat} {r0 : Int} {xs : List (Bool × List Nat)} {m : Bool} {ws : List Nat} (hx : Bd (vals xs) K) (hK : K ≤ 400000000) (hw : (List.length (words (val ws))) ≤ 1000) (hxm : xs.length ≤ 4096) (hp : i * C + k < xs.length) : Ctr Try.prog 112 [isI (i : Int), isI (k : Int), ptM r0 (C : Int) xs, PtrL [isB m, isWords ws]] (Flat (zc (nz (cf (vals xs) (i * C + k) * zv m ws)))) := by
  refine Ctr.intro Try.func112 rfl (by kernel_rfl) Try.ntmps112 rfl fun w0 F0 => ?_
  refine Tri.cv (Cv.wk (.cons (t := 0) (Has.t rfl) (.cons (t := 1) (Has.t rfl) (.cons (t := 2) (Has.t rfl) (.cons (t := 3) (Has.t rfl) .nil))))) ?_
  refine Tri.fact (Has.rngI (Has.t (t := 0) rfl)) fun lt0 => ?_
  refine Tri.fact (Has.rngI (Has.t (t := 1) rfl)) fun lt1 => ?_
  have hxr := hx.raw (i * C + k)
  refine Tri.seq fun K1 hK1 => ?_
  refine Tri.region ?_
  refine Ops.alloc [isB false, SlM isU []] zero44 (fun _ _ => ⟨rfl, nilM _ _, trivial⟩) rfl fun b1 => ?_
  refine nl ?_
  refine At.thn (hK1 _ _ ?_); clear hK1
  refine Tri.seq fun K2 hK2 => ?_
  refine Tri.dr ?_
  refine DrG.st (i := 0) [] rfl rfl rfl (by kernel_rfl) (OKG.o rfl (OK1.loadP (Has.t rfl) ty24 rfl (Ss' := [_, _, _]) rfl)) ?_
  refine DrG.st (i := 1) [] rfl rfl rfl (by kernel_rfl) (OKG.o rfl (OK1.mv (Has.t rfl))) ?_
  refine DrG.st (i := 2) [] rfl rfl rfl (by kernel_rfl) (OKG.o rfl (OK1.mv (Has.t rfl))) ?_
  refine DrG.st (i := 3) [7, 8, 9] rfl rfl rfl (by kernel_rfl) (OKG.o rfl (OK1.call (zmat_get (i := i) (k := k) hxm hp) (.cons (Has.t rfl) (.cons (Has.t rfl) (.cons (Has.t rfl) .nil))))) ?_
  refine DrG.st (i := 4) [] rfl rfl rfl (by kernel_rfl) (OKG.o rfl (OK1.loadP (Has.t rfl) ty44 rfl (Ss' := [_, _]) rfl)) ?_
  refine DrG.fin (n := 5) mixed (by kernel_rfl) (by kernel_rfl) (by kernel_rfl) ?_
  refine Ops.cv (Cv.wk (.cons (t := 6) (Has.t rfl) (.cons (t := 10) (Has.t rfl) (.cons (t := 11) (Has.t rfl) .nil)))) ?_
  refine st (OK1.call (zint_Mul (by omega) (by omega)) (.cons (Has.t rfl) (.cons (Has.t rfl) .nil))) rfl ?_
  refine Ops.store (Has.t rfl) (Has.t rfl) (i := 0) rfl ty44 rfl rfl (Ss' := [_, _]) rfl (M' := [(some _, cellM [_, _])]) rfl ?_
  refine nl ?_
  refine At.thn (hK2 _ _ ?_); clear hK2
  refine Tri.ret ?_
  refine rt1 (.inl rfl) Try.results112 rfl (.cell rfl (i := 0) rfl ty44 rfl ?_ .nil)
  all_goals (exact isZ_eq (by rw [cf_vals]))
set_option maxHeartbeats 4000000 in
theorem zmat_Scale {R C K : Nat} {xs : List (Bool × List Nat)} {m : Bool} {ws : List Nat} (hx : Bd (vals xs) K) (hK : K ≤ 400000000) (hw : (List.length (words (val ws))) ≤ 1000) (hR : R ≤ 64) (hC : C ≤ 64) (hl : xs.length = R * C) : Ctr Try.prog 63 [isM (R : Int) (C : Int) xs, Flat [isB m, isWords ws]] (isTup [isMz R C (sclL R C (zv m ws) (vals xs)), isI 0]) := by
  refine Ctr.intro Try.func63 rfl (by kernel_rfl) Try.ntmps63 rfl fun w0 F0 => ?_
  refine Tri.cv (Cv.wk (.cons (t := 0) (Has.t rfl) (.cons (t := 1) (Has.t rfl) .nil))) ?_
  refine Tri.fact (Has.okZ (Has.t (t := 1) rfl)) fun okz1 => ?_
  have hRC := side_le hR hC
  have hfo := formB_true hR hC hl
  refine Tri.seq fun K1 hK1 => ?_
  refine Tri.region ?_
  refine Ops.box (Has.t rfl) rfl fun b1 => ?_
  refine Ops.box (Has.t rfl) rfl fun b2 => ?_
  refine Ops.alloc [isI 0, isI 0, nilS] zero24 (fun _ _ => ⟨⟨rfl, by decide, by decide⟩, ⟨rfl, by decide, by decide⟩, rfl, trivial⟩) rfl fun b3 => ?_
  refine st (OK1.as (Has.cI 0 rfl)) rfl ?_
  refine nl ?_
  refine At.thn (hK1 _ _ ?_); clear hK1
  refine Tri.seq fun K2 hK2 => ?_
  refine Tri.seq fun K3 hK3 => ?_
  refine Tri.region ?_
  refine st (OK1.load (Has.t rfl) (i := 2) rfl ty24 rfl (Ss' := [_, _, _]) rfl) rfl ?_
  refine st (OK1.eq (OK1.call (zmat_Formed) (.cons (Has.t rfl) .nil)) ((show isB _ = isB true from isB_eq (hfo)))) rfl ?_
  refine st (OK1.not (Has.t rfl)) rfl ?_
  refine nl ?_
  refine At.thn (hK3 _ _ ?_); clear hK3
  refine Tri.cond (Has.t rfl) (fun hc1 => ?_) (fun hc1 => ?_)
  · have hc1 := BP.t hc1
    exfalso; simp at hc1
  · have hc1 := BP.f hc1
    refine Tri.skip ?_
    refine At.thn (hK2 _ _ ?_); clear hK2
    refine Tri.cv (Cv.wk (.cons (t := 2) (Has.t rfl) (.cons (t := 3) (Has.t rfl) (.cons (t := 4) (Has.t rfl) (.cons (t := 5) (Has.t rfl) .nil))))) ?_
    refine Tri.seq fun K4 hK4 => ?_
    refine Tri.region ?_
    refine st (OK1.fieldAddr (Has.t rfl) fld24_0 ty3) rfl ?_
    refine st (OK1.load1 (Has.t rfl) (i := 2) rfl ty3 rfl) rfl ?_
    refine st (OK1.fieldAddr (Has.t rfl) fld24_1 ty3) rfl ?_
    refine st (OK1.load1 (Has.t rfl) (i := 2) rfl ty3 rfl) rfl ?_
    refine Ops.cv (Cv.freezeBox (t := 2) (i := 2) rfl rfl rfl) ?_
    refine Ops.memEq (M' := [_, _]) rfl ?_
    refine Ops.cv (Cv.wk (.cons (t := 2) (Has.t rfl) (.cons (t := 3) (Has.t rfl) (.cons (t := 4) (Has.t rfl) (.cons (t := 5) (Has.t rfl) (.cons (t := 11) (Has.t rfl) (.cons (t := 13) (Has.t rfl) .nil))))))) ?_
    refine Ops.cv (Cv.freezeBox (t := 3) (i := 1) rfl rfl rfl) ?_
    refine Ops.memEq (M' := [_]) rfl ?_
    refine Ops.cv (Cv.wk (.cons (t := 2) (Has.t rfl) (.cons (t := 3) (Has.t rfl) (.cons (t := 4) (Has.t rfl) (.cons (t := 5) (Has.t rfl) (.cons (t := 11) (Has.t rfl) (.cons (t := 13) (Has.t rfl) .nil))))))) ?_
    refine st (OK1.makeFn (ι := PI R C) (As := fun p => [isI (p.1.1 : Int), isI (p.1.2 : Int)]) (R := fun p => Flat (zc (nz (cf (vals xs) (p.1.1 * C + p.1.2) * zv m ws)))) (fun p => zmat_Scale_1 hx hK hw (by omega) (by have := place_lt p.2.1 p.2.2; omega)) .nil (.cons (Has.t rfl) (.cons (Has.t rfl) .nil))) rfl ?_
    refine st (OK1.call (zmat_made (f := fun i k => nz (cf (vals xs) (i * C + k) * zv m ws)) hR hC (fun i k _ _ => by rw [val_words]; have h1 := nz_mul (cf (vals xs) (i * C + k)) (zv m ws); have h2 := hx (i * C + k); have h3 := zv_nw m ws; omega)) (.cons (Has.t rfl) (.cons (Has.t rfl) (.cons (Has.t rfl) .nil)))) rfl ?_
    refine Ops.store (Has.t rfl) (Has.t rfl) (i := 0) rfl ty24 rfl rfl (Ss' := [_, _, _]) rfl (M' := [(some _, cellM [_, _, _])]) rfl ?_
    refine st (OK1.as (Has.cI 0 rfl)) rfl ?_
    refine nl ?_
    refine At.thn (hK4 _ _ ?_); clear hK4
    refine Tri.cv (Cv.wk (.cons (t := 4) (Has.t rfl) (.cons (t := 5) (Has.t rfl) .nil))) ?_
    refine Tri.ret ?_
    refine rtN (.inl rfl) Try.results63 rfl rfl (.cell rfl (i := 0) rfl ty24 rfl ?_ (.tmp (Has.t' rfl ?_) .nil))
    · exact isMz_eq (by rw [zvz fun i k => cf (vals xs) (i * C + k) * zv m ws]; rfl)
    · rfl
end Go.Proofs.Ytgkbekcpmbjbdaa
/- Contracts: polynomials over the whole numbers: their lists. -/
namespace Go.Proofs.Ytgkbekcpmbjbdaa
open Go.En Go.RowKit
set_option linter.unusedVariables false
set_option maxRecDepth 10000
open Go.Nt
open Go.Pz
set_option maxHeartbeats 4000000 in
theorem zpoly_at {xs : List (Bool × List Nat)} {i : Nat} : Ctr Try.prog 140 [SlK 2 zc xs, isI (i : Int)] (Flat (zc (xs.getD i (false, [])))) := by
  refine Ctr.intro Try.func140 rfl (by kernel_rfl) Try.ntmps140 rfl fun w0 F0 => ?_
  refine Tri.cv (Cv.wk (.cons (t := 0) (Has.t rfl) (.cons (t := 1) (Has.t rfl) .nil))) ?_
  refine Tri.fact (Has.lenLt (Has.t (t := 0) rfl)) fun lt0 => ?_
  refine Tri.fact (Has.rngI (Has.t (t := 1) rfl)) fun lt1 => ?_
  refine Tri.seq fun K1 hK1 => ?_
  refine Tri.region ?_
  refine Ops.alloc [isB false, SlM isU []] zero44 (fun _ _ => ⟨rfl, nilM _ _, trivial⟩) rfl fun b1 => ?_
  refine nl ?_
  refine At.thn (hK1 _ _ ?_); clear hK1
  refine Tri.seq fun K2 hK2 => ?_
  refine Tri.seq fun K3 hK3 => ?_
  refine Tri.region ?_
  refine st (OK1.mv (Has.t rfl)) rfl ?_
  refine st (OK1.mv (Has.t rfl)) rfl ?_
  refine st (OK1.len sl34 (Has.t rfl)) rfl ?_
  refine st (OK1.ltI (Has.t rfl) (Has.t rfl)) rfl ?_
  refine nl ?_
  refine At.thn (hK3 _ _ ?_); clear hK3
  refine Tri.cond (Has.t rfl) (fun hc1 => ?_) (fun hc1 => ?_)
  · have hc1 := BP.t hc1
    refine Tri.seq fun K4 hK4 => ?_
    refine Tri.region ?_
    refine st (OK1.mv (Has.t rfl)) rfl ?_
    refine st (OK1.mv (Has.t rfl)) rfl ?_
    refine st (OK1.ixK sl34 ty44 (Has.t rfl) (Has.t rfl) zc_len ⟨by omega, by omega⟩ (getD_some (d := (false, [])) (by first | omega | (simp only [Int.toNat_natCast, List.length_set]; omega)))) rfl ?_
    refine st (OK1.loadP (Has.t rfl) ty44 rfl (Ss' := [_, _]) rfl) rfl ?_
    refine Ops.store (Has.t rfl) (Has.t rfl) (i := 0) rfl ty44 rfl rfl (Ss' := [_, _]) rfl (M' := [(some _, cellM [_, _])]) rfl ?_
    refine nl ?_
    refine At.thn (hK4 _ _ ?_); clear hK4
    refine Tri.cv (Cv.wk (.cons (t := 4) (Has.t rfl) .nil)) ?_
    refine Tri.ret ?_
    refine At.thr ?_
    refine rt1 (.inl rfl) Try.results140 rfl (.cell rfl (i := 0) rfl ty44 rfl ?_ .nil)
    all_goals (rfl)
  · have hc1 := BP.f hc1
    refine Tri.skip ?_
    refine At.thn (hK2 _ _ ?_); clear hK2
    refine Tri.cv (Cv.wk (.cons (t := 4) (Has.t rfl) .nil)) ?_
    refine Tri.seq fun K5 hK5 => ?_
    refine Tri.region ?_
    refine st (OK1.build [isB false, SlM isU []] pl44 zero44 (fun _ _ => ⟨rfl, nilM _ _, trivial⟩) .nil (Z'' := [_, _]) rfl) rfl ?_
    refine Ops.store (Has.t rfl) (Has.t rfl) (i := 0) rfl ty44 rfl rfl (Ss' := [_, _]) rfl (M' := [(some _, cellM [_, _])]) rfl ?_
    refine nl ?_
    refine At.thn (hK5 _ _ ?_); clear hK5
    refine Tri.ret ?_
    refine rt1 (.inl rfl) Try.results140 rfl (.cell rfl (i := 0) rfl ty44 rfl ?_ .nil)
    all_goals (exact congrArg Flat (show zc (false, []) = _ by rw [List.getD, List.getElem?_eq_none (by omega)]; rfl))
set_option maxHeartbeats 4000000 in
theorem zpoly_Norm {xs : List (Bool × List Nat)} {K : Nat} (hx : Bd (vals xs) K) (hK : K ≤ 4000000000) (hn : xs.length ≤ 1000000) : Ctr Try.prog 98 [SlK 2 zc xs] (isP (pnorm (vals xs))) := by
  refine Ctr.intro Try.func98 rfl (by kernel_rfl) Try.ntmps98 rfl fun w0 F0 => ?_
  refine Tri.cv (Cv.wk (.cons (t := 0) (Has.t rfl) .nil)) ?_
  refine Tri.fact (Has.lenLt (Has.t (t := 0) rfl)) fun lt0 => ?_
  refine Tri.seq fun K1 hK1 => ?_
  refine Tri.region ?_
  refine st (OK1.as (Has.cWK (k := 2) (fk := zc))) rfl ?_
  refine nl ?_
  refine At.thn (hK1 _ _ ?_); clear hK1
  refine Tri.seq fun K2 hK2 => ?_
  refine Tri.region ?_
  refine st (OK1.mv (Has.t rfl)) rfl ?_
  refine st (OK1.len sl34 (Has.t rfl)) rfl ?_
  refine st (OK1.as (Has.t rfl)) rfl ?_
  refine nl ?_
  refine At.thn (hK2 _ _ ?_); clear hK2
  refine Tri.seq fun K3 hK3 => ?_
  refine Tri.block ?_
  refine Tri.loopF [0, 2] (fun (z : { n : Nat // n ≤ xs.length ∧ ∀ i, n ≤ i → cf (vals xs) i = 0 }) => match z with | ⟨n, hI⟩ => [(3, isI (n : Int))]) (fun M => fun (z : { n : Nat // n ≤ xs.length ∧ ∀ i, n ≤ i → cf (vals xs) i = 0 }) => match z with | ⟨n, hI⟩ => M) (fun (z : { n : Nat // n ≤ xs.length ∧ ∀ i, n ≤ i → cf (vals xs) i = 0 }) => match z with | ⟨n, hI⟩ => n) (⟨xs.length, Nat.le_refl _, fun i hi => cf_high (by rw [vals_len]; exact hi)⟩) (Cv.mem (.cons (t := 3) (Has.t' rfl ?_) (.cons (t := 0) (Has.t rfl) (.cons (t := 2) (Has.t rfl) .nil))) ?_) ?_
  · rfl
  · rfl
  rintro ⟨n, hk, hz⟩ K4 hK4
  refine Tri.cv (Cv.wk (.cons (t := 3) (Has.t rfl) (.cons (t := 0) (Has.t rfl) (.cons (t := 2) (Has.t rfl) .nil)))) ?_
  have ek : ((n : Int) - 1).toNat = n - 1 := by omega
  refine Tri.seq fun K5 hK5 => ?_
  refine Tri.seq fun K6 hK6 => ?_
  refine Tri.region ?_
  refine st (OK1.mv (Has.t rfl)) rfl ?_
  refine st (OK1.gtI (Has.t rfl) (Has.cI 0 rfl)) rfl ?_
  refine st (OK1.mv (Has.t rfl)) rfl ?_
  refine stT rfl rfl (fun hg => have hg' := BP.t hg; OK1.mv (Has.t rfl)) rfl ?_
  refine stT rfl rfl (fun hg => have hg' := BP.t hg; OK1.mv (Has.t rfl)) rfl ?_
  refine stT rfl rfl (fun hg => have hg' := BP.t hg; OK1.subI (Has.g rfl hg) (Has.cI 1 rfl) (by first | omega | (have := hx.raw ((n : Int) - 1).toNat; omega)) (by first | omega | (have := hx.raw ((n : Int) - 1).toNat; omega))) rfl ?_
  refine stT rfl rfl (fun hg => have hg' := BP.t hg; OK1.ixK sl34 ty44 (Has.g rfl hg) (Has.g rfl hg) zc_len ⟨by omega, by omega⟩ (getD_some (d := (false, [])) (by first | omega | (simp only [Int.toNat_natCast, List.length_set]; omega)))) rfl ?_
  refine stT rfl rfl (fun hg => have hg' := BP.t hg; OK1.loadP (Has.g rfl hg) ty44 rfl (Ss' := [_, _]) rfl) rfl ?_
  refine stT rfl rfl (fun hg => have hg' := BP.t hg; OK1.call (zint_Sign (by first | omega | (have := hx.raw ((n : Int) - 1).toNat; omega))) (.cons (Has.g rfl hg) .nil)) rfl ?_
  refine stT rfl rfl (fun hg => have hg' := BP.t hg; OK1.eqI (Has.g rfl hg) (Has.cI 0 rfl)) rfl ?_
  refine st (OK1.pickAnd (Has.t rfl) (fun h => Has.g rfl h)) rfl ?_
  refine nl ?_
  refine At.thn (hK6 _ _ ?_); clear hK6
  refine Tri.cond (Has.t rfl) (fun hc1 => ?_) (fun hc1 => ?_)
  · have hc1 := BP.t hc1
    have HA1 := hc1
    refine Tri.skip ?_
    refine At.thn (hK5 _ _ ?_); clear hK5
    refine Tri.block ?_
    refine Tri.region ?_
    refine st (OK1.mv (Has.t rfl)) rfl ?_
    refine st (OK1.subI (Has.t rfl) (Has.cI 1 rfl) (by first | omega | assumption) (by first | omega | assumption)) rfl ?_
    refine st (OK1.as (Has.t rfl)) rfl ?_
    refine nl ?_
    refine At.bln ?_
    refine At.thn ?_
    refine hK4 (⟨n - 1, by omega, fun i hi => by rcases Nat.lt_or_ge i n with h | h; (have e : i = n - 1 := by omega); (have := (sgn_eq0 _).1 HA1.2; rw [← cf_vals, ek] at this; rw [e]; exact this); exact hz i h⟩) _ _ ?_ (Cv.mem (.cons (t := 3) (Has.t' rfl ?_) (.cons (t := 0) (Has.t rfl) (.cons (t := 2) (Has.t rfl) .nil))) ?_)
    · show n - 1 < n; omega
    · exact isI_eq (by omega)
    · rfl
  · have hc1 := BP.f hc1
    have HA2 := hc1
    refine Tri.exit ?_
    refine At.the ?_
    refine At.the ?_
    refine At.blh ?_
    refine At.thn (hK3 _ _ ?_); clear hK3
    refine Tri.cv (Cv.wk (.cons (t := 0) (Has.t rfl) (.cons (t := 2) (Has.t rfl) (.cons (t := 3) (Has.t rfl) .nil)))) ?_
    refine Tri.seq fun K7 hK7 => ?_
    refine Tri.region ?_
    refine Ops.cv (Cv.grow0K (α := Bool × List Nat) zc) ?_
    refine st (OK1.as (Has.cGr (α := Bool × List Nat))) rfl ?_
    refine nl ?_
    refine At.thn (hK7 _ _ ?_); clear hK7
    refine Tri.seq fun K8 hK8 => ?_
    refine Tri.seq fun K9 hK9 => ?_
    refine Tri.region ?_
    refine st (OK1.mv (Has.t rfl)) rfl ?_
    refine st (OK1.mv (Has.t rfl)) rfl ?_
    refine st (OK1.slHK sl34 ty44 zc_len (Has.t rfl) (Has.t rfl) ⟨by omega, by omega⟩) rfl ?_
    refine st (OK1.len sl34 (Has.t rfl)) rfl ?_
    refine st (OK1.mv (Has.cI 0 rfl)) rfl ?_
    refine nl ?_
    refine At.thn (hK9 _ _ ?_); clear hK9
    refine Tri.block ?_
    refine Tri.loopF [2, 24, 25] (fun (z : { z : Nat × Gr (Bool × List Nat) // z.1 ≤ n }) => match z with | ⟨(i, g), hI⟩ => [(26, isI (i : Int)), (4, isGr g (((vals xs).take i).map nz).length)]) (fun M => fun (z : { z : Nat × Gr (Bool × List Nat) // z.1 ≤ n }) => match z with | ⟨(i, g), hI⟩ => [grMK zc g (((vals xs).take i).map nz)]) (fun (z : { z : Nat × Gr (Bool × List Nat) // z.1 ≤ n }) => match z with | ⟨(i, g), hI⟩ => n - i) (⟨(0, Gr.nil), Nat.zero_le _⟩) (Cv.mem (.cons (t := 26) (Has.t' rfl ?_) (.cons (t := 4) (Has.t' rfl ?_) (.cons (t := 2) (Has.t rfl) (.cons (t := 24) (Has.t rfl) (.cons (t := 25) (Has.t rfl) .nil))))) ?_) ?_
    · rfl
    · rfl
    · rfl
    rintro ⟨⟨i, g⟩, hI⟩ K10 hK10
    refine Tri.cv (Cv.wk (.cons (t := 26) (Has.t rfl) (.cons (t := 4) (Has.t rfl) (.cons (t := 2) (Has.t rfl) (.cons (t := 24) (Has.t rfl) (.cons (t := 25) (Has.t rfl) .nil)))))) ?_
    refine Tri.memEq (M' := [grMK zc g (((vals xs).take i).map nz)]) rfl ?_
    simp only [] at hI
    have htl : (xs.take ((n : Int)).toNat).length = n := by rw [Int.toNat_natCast, List.length_take]; omega
    have hvl := vals_len xs
    have hyl : (((vals xs).take i).map nz).length = i := by rw [List.length_map, List.length_take]; omega
    refine Tri.seq fun K11 hK11 => ?_
    refine Tri.region ?_
    refine st (OK1.ltI (Has.t rfl) (Has.t rfl)) rfl ?_
    refine nl ?_
    refine At.thn (hK11 _ _ ?_); clear hK11
    refine Tri.seq fun K12 hK12 => ?_
    refine Tri.cond (Has.t rfl) (fun hc2 => ?_) (fun hc2 => ?_)
    · have hc2 := BP.t hc2
      refine Tri.skip ?_
      refine At.thn (hK12 _ _ ?_); clear hK12
      refine Tri.seq fun K13 hK13 => ?_
      refine Tri.block ?_
      refine Tri.seq fun K14 hK14 => ?_
      refine Tri.region ?_
      refine st (OK1.ixK sl34 ty44 (Has.t rfl) (Has.t rfl) zc_len ⟨by omega, by omega⟩ (getD_some (d := (false, [])) (by first | omega | (simp only [Int.toNat_natCast, List.length_set]; omega)))) rfl ?_
      refine st (OK1.loadP (Has.t rfl) ty44 rfl (Ss' := [_, _]) rfl) rfl ?_
      refine Ops.alloc [isB false, SlM isU []] zero44 (fun _ _ => ⟨rfl, nilM _ _, trivial⟩) rfl fun b1 => ?_
      refine Ops.store (Has.t rfl) (Has.t rfl) (i := 0) rfl ty44 rfl rfl (Ss' := [_, _]) rfl (M' := [(some _, cellM [_, _]), _]) rfl ?_
      refine nl ?_
      refine At.thn (hK14 _ _ ?_); clear hK14
      refine Tri.region ?_
      refine st (OK1.mv (Has.t rfl)) rfl ?_
      refine st (OK1.fieldAddr (Has.t rfl) fld44_1 ty42) rfl ?_
      refine st (OK1.load1 (Has.t rfl) (i := 0) rfl ty42 rfl) rfl ?_
      refine st (OK1.fieldAddr (Has.t rfl) fld44_0 ty4) rfl ?_
      refine st (OK1.load1 (Has.t rfl) (i := 0) rfl ty4 rfl) rfl ?_
      refine st (OK1.eq (OK1.call (zint_From (by simp only [Int.toNat_natCast]; rw [getD_takeZ (by omega)]; have := hx.raw i; omega)) (.cons (Has.t rfl) (.cons (Has.t rfl) .nil))) ((show isZ _ = Flat (zc (nz (cf (vals xs) i))) from isZ_eq (by rw [cf_vals]; simp only [Int.toNat_natCast]; rw [getD_takeZ (by omega)])))) rfl ?_
      refine st (OK1.buildS [isB false, SlM isU []] sl34 ty44 zero44 (fun _ _ => ⟨rfl, nilM _ _, trivial⟩) rfl rfl (.cons (Has.t rfl) rfl rfl rfl .nil) rfl (S := SlK 2 zc [nz (cf (vals xs) i)]) rfl) rfl ?_
      refine Ops.appendGK (fk := zc) (u := (false, [])) zc_len (by decide) (fun _ => inferInstance) sl34 ty44 zero44 (fun _ _ => ⟨rfl, nilM _ _, trivial⟩) by44 (Has.t rfl) (i := 1) rfl (Has.t rfl) (by rw [hyl]; show i + 1 ≤ _; omega) (by simp) rfl fun gr1 => ?_
      refine Ops.memEq (M' := [_, grMK _ _ _]) rfl ?_
      refine st (OK1.as (Has.t rfl)) rfl ?_
      refine nl ?_
      refine At.bln ?_
      refine At.thn (hK13 _ _ ?_); clear hK13
      refine Tri.region ?_
      refine st (OK1.addI (Has.t rfl) (Has.cI 1 rfl) (by first | omega | assumption) (by first | omega | assumption)) rfl ?_
      refine st (OK1.mv (Has.t rfl)) rfl ?_
      refine nl ?_
      refine At.thn ?_
      refine hK10 (⟨(i + 1, gr1), by show i + 1 ≤ _; omega⟩) _ _ ?_ (Cv.trans (Cv.drop ((.cons _ (.cons_cons _ .slnil)))) (Cv.mem (.cons (t := 26) (Has.t' rfl ?_) (.cons (t := 4) (Has.t' rfl ?_) (.cons (t := 2) (Has.t rfl) (.cons (t := 24) (Has.t rfl) (.cons (t := 25) (Has.t rfl) .nil))))) ?_))
      · show n - (i + 1) < n - i; omega
      · exact isI_eq (by omega)
      · exact isGr_eq (by rw [← take_map_succ _ _ (by omega), List.length_append])
      · exact grMK_eq (take_map_succ _ _ (by omega))
    · have hc2 := BP.f hc2
      refine Tri.exit ?_
      refine At.the ?_
      refine At.the ?_
      refine At.blh ?_
      refine At.thn (hK8 _ _ ?_); clear hK8
      refine Tri.seq fun K15 hK15 => ?_
      refine Tri.cv (Cv.freezeGK (t := 4) (i := 0) (ys := ((vals xs).take i).map nz) zc_len rfl rfl rfl) ?_
      refine Tri.memEq (M' := []) rfl ?_
      refine Tri.cv (Cv.wk (.cons (t := 2) (Has.t rfl) (.cons (t := 24) (Has.t rfl) (.cons (t := 25) (Has.t rfl) (.cons (t := 26) (Has.t rfl) (.cons (t := 4) (Has.t rfl) (.cons (t := 27) (Has.t rfl) .nil))))))) ?_
      refine Tri.region ?_
      refine st (OK1.mv (Has.t rfl)) rfl ?_
      refine st (OK1.as (Has.t rfl)) rfl ?_
      refine nl ?_
      refine At.thn (hK15 _ _ ?_); clear hK15
      refine Tri.cv (Cv.wk (.cons (t := 2) (Has.t rfl) .nil)) ?_
      refine Tri.ret ?_
      refine rt1 (.inl rfl) Try.results98 rfl (.tmp (Has.t' rfl ?_) .nil)
      all_goals (exact isP_eq (by obtain rfl : i = n := (by omega); exact take_norm (by rcases HA2 with h | h; left; omega; right; rw [cf_vals, ← ek]; exact fun e => h ((sgn_eq0 _).2 e)) hz))
end Go.Proofs.Ytgkbekcpmbjbdaa
/- Contracts: the characteristic polynomial. -/
namespace Go.Proofs.Ytgkbekcpmbjbdaa
open Go.En Go.RowKit
set_option linter.unusedVariables false
set_option maxRecDepth 10000
open Go.Nt
open Go.Pz
open Go.Mz
open Go.Hn
open Go.Hp
open Go.Dt
open Go.Ch
theorem exact_mul {k : Nat} (h : 1 ≤ k) (c : Int) : (if (k : Int) ≠ 0 ∧ ((k : Int) * c).tmod (k : Int) = 0 then ((k : Int) * c).tdiv (k : Int) else 0) = c := by
  rw [if_pos ⟨by omega, Int.mul_tmod_right _ _⟩]
  exact Int.mul_tdiv_cancel_left _ (by omega)
theorem qF_fz {n k : Nat} {L : List Int} (h : k = n + 1) : (qF n L k).take (n + 1) = (chL n L).map nz := by
  subst h
  rw [List.take_of_length_le (by rw [qF_len]; exact Nat.le_refl _), qF_done]
theorem memQ_eq {b : Nat} {x : Option Nat × MP} {a c : List (Bool × List Nat)} {r : Mem} (h : a = c) : (x :: (some b, cellM (a.flatMap zc)) :: r : Mem) = x :: (some b, cellM (c.flatMap zc)) :: r := by subst h; rfl
theorem fl_first (n : Nat) (L : List Int) : oneL n = flM n L (min 1 n) := by
  rcases Nat.eq_zero_or_pos n with h | h
  · subst h; rfl
  · rw [Nat.min_eq_left h, fl_one h]
set_option maxHeartbeats 4000000 in
theorem zchar_steps {n K : Nat} {xs : List (Bool × List Nat)} (hx : Bd (vals xs) K) (hB : K + flB n K n + 2 * n ≤ 900) (hn : n ≤ 64) (hl : xs.length = n * n) : Ctr Try.prog 64 [isM (n : Int) (n : Int) xs] (isTup [isP (chL n (vals xs)), isMz n n (flM n (vals xs) n)]) := by
  refine Ctr.intro Try.func64 rfl (by kernel_rfl) Try.ntmps64 rfl fun w0 F0 => ?_
  refine Tri.cv (Cv.wk (.cons (t := 0) (Has.t rfl) .nil)) ?_
  have hRC := side_le hn hn
  have hOb : Bd (vals ((oneL n).map nz)) 1 := by rw [vals_nz]; exact oneL_bd n
  have hOl : ((oneL n).map nz).length = n * n := by rw [List.length_map, oneL_len]
  have hcb := chL_bd (n := n) hx
  refine Tri.seq fun K1 hK1 => ?_
  refine Tri.region ?_
  refine Ops.box (Has.t rfl) rfl fun b1 => ?_
  refine st (OK1.as (Has.cWK (k := 2) (fk := zc))) rfl ?_
  refine Ops.alloc [isI 0, isI 0, nilS] zero24 (fun _ _ => ⟨⟨rfl, by decide, by decide⟩, ⟨rfl, by decide, by decide⟩, rfl, trivial⟩) rfl fun b2 => ?_
  refine nl ?_
  refine At.thn (hK1 _ _ ?_); clear hK1
  refine Tri.seq fun K2 hK2 => ?_
  refine Tri.region ?_
  refine st (OK1.fieldAddr (Has.t rfl) fld24_0 ty3) rfl ?_
  refine st (OK1.load1 (Has.t rfl) (i := 1) rfl ty3 rfl) rfl ?_
  refine st (OK1.as (Has.t rfl)) rfl ?_
  refine nl ?_
  refine At.thn (hK2 _ _ ?_); clear hK2
  refine Tri.seq fun K3 hK3 => ?_
  refine Tri.region ?_
  refine st (OK1.mv (Has.t rfl)) rfl ?_
  refine st (OK1.call (zmat_Identity hn) (.cons (Has.t rfl) .nil)) rfl ?_
  refine st (OK1.ext (Has.t rfl) rfl) rfl ?_
  refine st (OK1.ext (Has.t rfl) rfl) rfl ?_
  refine st (OK1.call (zchar_must) (.cons (Has.t rfl) (.cons (Has.t rfl) .nil))) rfl ?_
  refine Ops.alloc [isI 0, isI 0, nilS] zero24 (fun _ _ => ⟨⟨rfl, by decide, by decide⟩, ⟨rfl, by decide, by decide⟩, rfl, trivial⟩) rfl fun b3 => ?_
  refine Ops.store (Has.t rfl) (Has.t rfl) (i := 0) rfl ty24 rfl rfl (Ss' := [_, _, _]) rfl (M' := [(some _, cellM [_, _, _]), _, _]) rfl ?_
  refine nl ?_
  refine At.thn (hK3 _ _ ?_); clear hK3
  refine Tri.cv (Cv.wk (.cons (t := 1) (Has.t rfl) (.cons (t := 2) (Has.t rfl) (.cons (t := 3) (Has.t rfl) (.cons (t := 4) (Has.t rfl) (.cons (t := 5) (Has.t rfl) .nil)))))) ?_
  refine Tri.seq fun K4 hK4 => ?_
  refine Tri.region ?_
  refine st (OK1.mv (Has.t rfl)) rfl ?_
  refine st (OK1.eq (OK1.addI (Has.t rfl) (Has.cI 1 rfl) (by first | omega | assumption) (by first | omega | assumption)) ((show isI _ = isI ((n + 1 : Nat) : Int) from isI_eq (by omega)))) rfl ?_
  refine Ops.makeK (fk := zc) (u := (false, [])) (n := (n + 1)) (c := (n + 1)) sl34 ty44 zero44 (fun _ _ => ⟨rfl, nilM _ _, trivial⟩) zc_len by44 (Has.t' rfl rfl) (Has.t' rfl rfl) ⟨by omega, by omega⟩ rfl fun b4 => ?_
  refine st (OK1.as (Has.t rfl)) rfl ?_
  refine nl ?_
  refine At.thn (hK4 _ _ ?_); clear hK4
  refine Tri.seq fun K5 hK5 => ?_
  refine Tri.region ?_
  refine st (OK1.mv (Has.t rfl)) rfl ?_
  refine st (OK1.mv (Has.t rfl)) rfl ?_
  refine st (OK1.eq (OK1.call (zint_Of) (.cons (Has.cI 1 rfl) .nil)) ((show isZ 1 = Flat (zc (nz 1)) from rfl))) rfl ?_
  refine st (OK1.eq (OK1.ixWin sl34 ty44 (Has.t rfl) (Has.t rfl) ⟨by omega, by omega⟩) (isPtr_eq (by first | exact ixo0 | exact ixo2 | exact ixo1))) rfl ?_
  refine Ops.storeK (z := nz 1) zc_len (Has.t rfl) (Has.t rfl) (i := 0) rfl ty44 (by simp only [Int.toNat_natCast, List.length_replicate]; omega) (M' := [(_, _), _, _, _]) rfl ?_
  refine nl ?_
  refine At.thn (hK5 _ _ ?_); clear hK5
  refine Tri.cv (Cv.wk (.cons (t := 1) (Has.t rfl) (.cons (t := 2) (Has.t rfl) (.cons (t := 3) (Has.t rfl) (.cons (t := 4) (Has.t rfl) (.cons (t := 5) (Has.t rfl) (.cons (t := 6) (Has.t rfl) .nil))))))) ?_
  refine Tri.seq fun K6 hK6 => ?_
  refine Tri.region ?_
  refine st (OK1.load (Has.t rfl) (i := 1) rfl ty24 rfl (Ss' := [_, _, _]) rfl) rfl ?_
  refine Ops.alloc [isI 0, isI 0, nilS] zero24 (fun _ _ => ⟨⟨rfl, by decide, by decide⟩, ⟨rfl, by decide, by decide⟩, rfl, trivial⟩) rfl fun b5 => ?_
  refine Ops.store (Has.t rfl) (Has.t rfl) (i := 0) rfl ty24 rfl rfl (Ss' := [_, _, _]) rfl (M' := [(some _, cellM [_, _, _]), _, _, _, _]) rfl ?_
  refine nl ?_
  refine At.thn (hK6 _ _ ?_); clear hK6
  refine Tri.seq fun K7 hK7 => ?_
  refine Tri.seq fun K8 hK8 => ?_
  refine Tri.region ?_
  refine st (OK1.as (Has.cI 1 rfl)) rfl ?_
  refine nl ?_
  refine At.thn (hK8 _ _ ?_); clear hK8
  refine Tri.block ?_
  refine Tri.loopF [1, 2, 3, 4, 5, 6, 7] (fun (z : { z : Nat × List Int // 1 ≤ z.1 ∧ z.1 ≤ n + 1 ∧ z.2 = flM n (vals xs) (min z.1 n) }) => match z with | ⟨(k, Mk), hI⟩ => [(8, isI (k : Int))]) (fun M => fun (z : { z : Nat × List Int // 1 ≤ z.1 ∧ z.1 ≤ n + 1 ∧ z.2 = flM n (vals xs) (min z.1 n) }) => match z with | ⟨(k, Mk), hI⟩ => [(some b5, cellM [isI (n : Int), isI (n : Int), SlK 2 zc (Mk.map nz)]), (some b4, cellM ((qF n (vals xs) k).flatMap zc)), (some b3, cellM [isI (n : Int), isI (n : Int), SlK 2 zc ((oneL n).map nz)]), (some b2, cellM [isI 0, isI 0, nilS]), (some b1, cellM [isI (n : Int), isI (n : Int), SlK 2 zc xs])]) (fun (z : { z : Nat × List Int // 1 ≤ z.1 ∧ z.1 ≤ n + 1 ∧ z.2 = flM n (vals xs) (min z.1 n) }) => match z with | ⟨(k, Mk), hI⟩ => n + 1 - k) (⟨(1, oneL n), Nat.le_refl _, by show 1 ≤ n + 1; omega, fl_first n _⟩) (Cv.mem (.cons (t := 8) (Has.t' rfl ?_) (.cons (t := 1) (Has.t rfl) (.cons (t := 2) (Has.t rfl) (.cons (t := 3) (Has.t rfl) (.cons (t := 4) (Has.t rfl) (.cons (t := 5) (Has.t rfl) (.cons (t := 6) (Has.t rfl) (.cons (t := 7) (Has.t rfl) .nil)))))))) ?_) ?_
  · exact isI_eq (by omega)
  · exact memQ_eq (qF_one n _)
  rintro ⟨⟨k, Mk⟩, hI⟩ K9 hK9
  refine Tri.cv (Cv.wk (.cons (t := 8) (Has.t rfl) (.cons (t := 1) (Has.t rfl) (.cons (t := 2) (Has.t rfl) (.cons (t := 3) (Has.t rfl) (.cons (t := 4) (Has.t rfl) (.cons (t := 5) (Has.t rfl) (.cons (t := 6) (Has.t rfl) (.cons (t := 7) (Has.t rfl) .nil))))))))) ?_
  refine Tri.memEq (M' := [(some b5, cellM [isI (n : Int), isI (n : Int), SlK 2 zc (Mk.map nz)]), (some b4, cellM ((qF n (vals xs) k).flatMap zc)), (some b3, cellM [isI (n : Int), isI (n : Int), SlK 2 zc ((oneL n).map nz)]), (some b2, cellM [isI 0, isI 0, nilS]), (some b1, cellM [isI (n : Int), isI (n : Int), SlK 2 zc xs])]) rfl ?_
  simp only [] at hI
  obtain ⟨hk1, hk2, hMk⟩ := hI
  obtain ⟨cK, hcK⟩ : ∃ c, c = flC n (vals xs) k := ⟨_, rfl⟩
  have hMl : Mk.length = n * n := by rw [hMk]; exact flM_len _ _ _
  refine Tri.seq fun K10 hK10 => ?_
  refine Tri.seq fun K11 hK11 => ?_
  refine Tri.region ?_
  refine st (OK1.mv (Has.t rfl)) rfl ?_
  refine st (OK1.mv (Has.t rfl)) rfl ?_
  refine st (OK1.leI (Has.t rfl) (Has.t rfl)) rfl ?_
  refine nl ?_
  refine At.thn (hK11 _ _ ?_); clear hK11
  refine Tri.cond (Has.t rfl) (fun hc1 => ?_) (fun hc1 => ?_)
  · have hc1 := BP.t hc1
    have hkn : k ≤ n := (by omega)
    have hMk2 : Mk = flM n (vals xs) k := by rw [hMk, Nat.min_eq_left hkn]
    have hMb : Bd Mk (flB n K n) := by rw [hMk2]; exact (fl_bd hx k hk1 hkn).mono (by unfold flB; exact Nat.add_le_add_left (Nat.mul_le_mul_right _ (by omega)) _)
    obtain ⟨Am, hAm⟩ : ∃ X, X = prdL n (vals xs) Mk := ⟨_, rfl⟩
    have hAb : Bd Am (K + flB n K n + n) := by rw [hAm]; exact prdL_bd hx hMb
    have hAl : Am.length = n * n := by rw [hAm]; exact prdL_len _ _ _
    have htr : trcL n Am n = -((k : Int) * cK) := by rw [hAm, hMk2, hcK]; exact fl_tr hk1 hkn
    have hcb2 : (List.length (words cK.natAbs)) ≤ K + flB n K n + 2 * n := by rw [hcK]; exact fl_cbd hx (by rw [← hMk2]; exact hMb) hk1 hkn
    have hts : (List.length (words (trcL n Am n).natAbs)) ≤ K + flB n K n + n + n := sm_nw (fun i => hAb _) n
    rw [htr, Int.natAbs_neg] at hts
    have hkw : (List.length (words ((k : Int)).natAbs)) ≤ 1 := nw_small' (by omega)
    refine Tri.skip ?_
    refine At.thn (hK10 _ _ ?_); clear hK10
    refine Tri.seq fun K12 hK12 => ?_
    refine Tri.block ?_
    refine Tri.seq fun K13 hK13 => ?_
    refine Tri.region ?_
    refine st (OK1.load (Has.t rfl) (i := 4) rfl ty24 rfl (Ss' := [_, _, _]) rfl) rfl ?_
    refine st (OK1.load (Has.t rfl) (i := 0) rfl ty24 rfl (Ss' := [_, _, _]) rfl) rfl ?_
    refine st (OK1.eq (OK1.call (zmat_Mul (R := n) (C := n) (D := n) (K := K) (L := flB n K n) (ys := Mk.map nz) hx (by rw [vals_nz]; exact hMb) (by omega) hn hn hn hl (by rw [List.length_map]; exact hMl)) (.cons (Has.t rfl) (.cons (Has.t rfl) .nil))) ((show _ = isTup [isMz n n Am, isI 0] from by rw [vals_nz, hAm]; rfl))) rfl ?_
    refine st (OK1.ext (Has.t rfl) rfl) rfl ?_
    refine st (OK1.ext (Has.t rfl) rfl) rfl ?_
    refine st (OK1.call (zchar_must) (.cons (Has.t rfl) (.cons (Has.t rfl) .nil))) rfl ?_
    refine Ops.alloc [isI 0, isI 0, nilS] zero24 (fun _ _ => ⟨⟨rfl, by decide, by decide⟩, ⟨rfl, by decide, by decide⟩, rfl, trivial⟩) rfl fun b6 => ?_
    refine Ops.store (Has.t rfl) (Has.t rfl) (i := 0) rfl ty24 rfl rfl (Ss' := [_, _, _]) rfl (M' := [(some _, cellM [_, _, _]), _, _, _, _, _]) rfl ?_
    refine nl ?_
    refine At.thn (hK13 _ _ ?_); clear hK13
    refine Tri.seq fun K14 hK14 => ?_
    refine Tri.region ?_
    refine st (OK1.load (Has.t rfl) (i := 0) rfl ty24 rfl (Ss' := [_, _, _]) rfl) rfl ?_
    refine st (OK1.eq (OK1.call (zchar_trace (K := K + flB n K n + n) (xs := Am.map nz) (by rw [vals_nz]; exact hAb) (by omega) hn (by rw [List.length_map]; exact hAl)) (.cons (Has.t rfl) .nil)) ((show _ = isZ (-((k : Int) * cK)) from isZ_eq (by rw [vals_nz, htr])))) rfl ?_
    refine st (OK1.eq (OK1.call (zint_Neg (by rw [val_words, Int.natAbs_neg]; omega)) (.cons (Has.t rfl) .nil)) ((show _ = isZ ((k : Int) * cK) from isZ_eq (by simp only [zv_nf, zv_nz]; omega)))) rfl ?_
    refine st (OK1.mv (Has.t rfl)) rfl ?_
    refine st (OK1.call (zint_Of) (.cons (Has.t rfl) .nil)) rfl ?_
    refine st (OK1.call (zint_Exact (by rw [val_words]; omega) (by rw [val_words]; omega)) (.cons (Has.t rfl) (.cons (Has.t rfl) .nil))) rfl ?_
    refine st (OK1.mv (Has.t rfl)) rfl ?_
    refine st (OK1.eq (OK1.ext (Has.t rfl) rfl) ((show _ = isZ cK from isZ_eq (by simp only [zv_nf, zv_nz]; exact exact_mul hk1 cK)))) rfl ?_
    refine st (OK1.ext (Has.t rfl) rfl) rfl ?_
    refine Ops.alloc [isB false, SlM isU []] zero44 (fun _ _ => ⟨rfl, nilM _ _, trivial⟩) rfl fun b7 => ?_
    refine Ops.store (Has.t rfl) (Has.t rfl) (i := 0) rfl ty44 rfl rfl (Ss' := [_, _]) rfl (M' := [(some _, cellM [_, _]), _, _, _, _, _, _]) rfl ?_
    refine st (OK1.as (Has.t rfl)) rfl ?_
    refine nl ?_
    refine At.thn (hK14 _ _ ?_); clear hK14
    refine Tri.seq fun K15 hK15 => ?_
    refine Tri.region ?_
    refine st (OK1.mv (Has.t rfl)) rfl ?_
    refine st (OK1.mv (Has.t rfl)) rfl ?_
    refine st (OK1.mv (Has.t rfl)) rfl ?_
    refine st (OK1.eq (OK1.subI (Has.t rfl) (Has.t rfl) (by first | omega | assumption) (by first | omega | assumption)) ((show isI _ = isI ((n - k : Nat) : Int) from isI_eq (by omega)))) rfl ?_
    refine st (OK1.load (Has.t rfl) (i := 0) rfl ty44 rfl (Ss' := [_, _]) rfl) rfl ?_
    refine st (OK1.eq (OK1.ixWin sl34 ty44 (Has.t rfl) (Has.t rfl) ⟨by omega, by omega⟩) (isPtr_eq (by first | exact ixo0 | exact ixo2 | exact ixo1))) rfl ?_
    refine Ops.storeK (z := nz cK) zc_len (Has.t rfl) (Has.t rfl) (i := 3) rfl ty44 (by rw [qF_len]; simp only [Int.toNat_natCast]; omega) (M' := [_, _, _, (_, _), _, _, _]) rfl ?_
    refine nl ?_
    refine At.thn (hK15 _ _ ?_); clear hK15
    refine Tri.seq fun K16 hK16 => ?_
    refine Tri.region ?_
    refine st (OK1.mv (Has.t rfl)) rfl ?_
    refine st (OK1.mv (Has.t rfl)) rfl ?_
    refine st (OK1.ltI (Has.t rfl) (Has.t rfl)) rfl ?_
    refine nl ?_
    refine At.thn (hK16 _ _ ?_); clear hK16
    refine Tri.cond (Has.t rfl) (fun hc2 => ?_) (fun hc2 => ?_)
    · have hc2 := BP.t hc2
      refine Tri.dr ?_
      refine DrG.st (i := 0) [] rfl rfl rfl (by kernel_rfl) (OKG.o rfl (OK1.load (Has.t rfl) (i := 1) rfl ty24 rfl (Ss' := [_, _, _]) rfl)) ?_
      refine DrG.st (i := 1) [] rfl rfl rfl (by kernel_rfl) (OKG.o rfl (OK1.load (Has.t rfl) (i := 4) rfl ty24 rfl (Ss' := [_, _, _]) rfl)) ?_
      refine DrG.st (i := 2) [] rfl rfl rfl (by kernel_rfl) (OKG.o rfl (OK1.load (Has.t rfl) (i := 0) rfl ty44 rfl (Ss' := [_, _]) rfl)) ?_
      refine DrG.st (i := 3) [57, 58] rfl rfl rfl (by kernel_rfl) (OKG.o rfl (OK1.eq (OK1.call (zmat_Scale (R := n) (C := n) (K := 1) hOb (by decide) (by rw [val_words]; omega) hn hn hOl) (.cons (Has.t rfl) (.cons (Has.t rfl) .nil))) ((show _ = isTup [isMz n n (sclL n n cK (oneL n)), isI 0] from by rw [vals_nz]; first | rw [zv_nf] | rw [zv_nz])))) ?_
      refine DrG.st (i := 4) [59] rfl rfl rfl (by kernel_rfl) (OKG.o rfl (OK1.ext (Has.t rfl) rfl)) ?_
      refine DrG.st (i := 5) [59] rfl rfl rfl (by kernel_rfl) (OKG.o rfl (OK1.ext (Has.t rfl) rfl)) ?_
      refine DrG.st (i := 6) [60, 61] rfl rfl rfl (by kernel_rfl) (OKG.o rfl (OK1.call (zchar_must) (.cons (Has.t rfl) (.cons (Has.t rfl) .nil)))) ?_
      refine DrG.st (i := 7) [56, 62] rfl rfl rfl (by kernel_rfl) (OKG.o rfl (OK1.eq (OK1.call (zmat_Add (K := 1000) (xs := Am.map nz) (ys := (sclL n n cK (oneL n)).map nz) (by rw [vals_nz]; exact hAb.mono (by omega)) (by rw [vals_nz]; exact (scl_one_bd hcb2).mono (by omega)) (by decide) hn (by rw [List.length_map]; exact hAl) (by rw [List.length_map, sclL_len])) (.cons (Has.t rfl) (.cons (Has.t rfl) .nil))) ((show _ = isTup [isMz n n (sumL n Am (sclL n n cK (oneL n))), isI 0] from by rw [vals_nz, vals_nz])))) ?_
      refine DrG.st (i := 8) [63] rfl rfl rfl (by kernel_rfl) (OKG.o rfl (OK1.ext (Has.t rfl) rfl)) ?_
      refine DrG.st (i := 9) [63] rfl rfl rfl (by kernel_rfl) (OKG.o rfl (OK1.ext (Has.t rfl) rfl)) ?_
      refine DrG.fin (n := 10) mixed (by kernel_rfl) (by kernel_rfl) (by kernel_rfl) ?_
      refine Ops.cv (Cv.wk (.cons (t := 1) (Has.t rfl) (.cons (t := 2) (Has.t rfl) (.cons (t := 3) (Has.t rfl) (.cons (t := 4) (Has.t rfl) (.cons (t := 5) (Has.t rfl) (.cons (t := 6) (Has.t rfl) (.cons (t := 7) (Has.t rfl) (.cons (t := 8) (Has.t rfl) (.cons (t := 27) (Has.t rfl) (.cons (t := 28) (Has.t rfl) (.cons (t := 29) (Has.t rfl) (.cons (t := 32) (Has.t rfl) (.cons (t := 33) (Has.t rfl) (.cons (t := 34) (Has.t rfl) (.cons (t := 35) (Has.t rfl) (.cons (t := 36) (Has.t rfl) (.cons (t := 37) (Has.t rfl) (.cons (t := 9) (Has.t rfl) (.cons (t := 39) (Has.t rfl) (.cons (t := 40) (Has.t rfl) (.cons (t := 41) (Has.t rfl) (.cons (t := 42) (Has.t rfl) (.cons (t := 43) (Has.t rfl) (.cons (t := 44) (Has.t rfl) (.cons (t := 38) (Has.t rfl) (.cons (t := 45) (Has.t rfl) (.cons (t := 46) (Has.t rfl) (.cons (t := 10) (Has.t rfl) (.cons (t := 47) (Has.t rfl) (.cons (t := 48) (Has.t rfl) (.cons (t := 49) (Has.t rfl) (.cons (t := 50) (Has.t rfl) (.cons (t := 51) (Has.t rfl) (.cons (t := 52) (Has.t rfl) (.cons (t := 53) (Has.t rfl) (.cons (t := 54) (Has.t rfl) (.cons (t := 55) (Has.t rfl) (.cons (t := 56) (Has.t rfl) (.cons (t := 57) (Has.t rfl) (.cons (t := 58) (Has.t rfl) (.cons (t := 59) (Has.t rfl) (.cons (t := 60) (Has.t rfl) (.cons (t := 61) (Has.t rfl) (.cons (t := 62) (Has.t rfl) (.cons (t := 63) (Has.t rfl) (.cons (t := 64) (Has.t rfl) (.cons (t := 65) (Has.t rfl) .nil)))))))))))))))))))))))))))))))))))))))))))))))) ?_
      refine st (OK1.call (zchar_must) (.cons (Has.t rfl) (.cons (Has.t rfl) .nil))) rfl ?_
      refine Ops.store (Has.t rfl) (Has.t rfl) (i := 2) rfl ty24 rfl rfl (Ss' := [_, _, _]) rfl (M' := [_, _, (some _, cellM [_, _, _]), _, _, _, _]) rfl ?_
      refine nl ?_
      refine At.bln ?_
      refine At.thn (hK12 _ _ ?_); clear hK12
      refine Tri.region ?_
      refine st (OK1.mv (Has.t rfl)) rfl ?_
      refine st (OK1.addI (Has.t rfl) (Has.cI 1 rfl) (by first | omega | assumption) (by first | omega | assumption)) rfl ?_
      refine st (OK1.as (Has.t rfl)) rfl ?_
      refine nl ?_
      refine At.thn ?_
      refine hK9 (⟨(k + 1, sumL n Am (sclL n n cK (oneL n))), by show 1 ≤ k + 1; omega, by show k + 1 ≤ n + 1; omega, by show _ = flM n (vals xs) (min (k + 1) n); rw [hAm, hMk2, hcK, Nat.min_eq_left (by omega)]; exact fl_next hk1 (by omega)⟩) _ _ ?_ (Cv.trans (Cv.drop ((.cons _ (.cons _ (.cons_cons _ (.cons_cons _ (.cons_cons _ (.cons_cons _ (.cons_cons _ .slnil))))))))) (Cv.mem (.cons (t := 8) (Has.t' rfl ?_) (.cons (t := 1) (Has.t rfl) (.cons (t := 2) (Has.t rfl) (.cons (t := 3) (Has.t rfl) (.cons (t := 4) (Has.t rfl) (.cons (t := 5) (Has.t rfl) (.cons (t := 6) (Has.t rfl) (.cons (t := 7) (Has.t rfl) .nil)))))))) ?_))
      · show n + 1 - (k + 1) < n + 1 - k; omega
      · exact isI_eq (by omega)
      · exact memQ_eq (by rw [Int.toNat_natCast, hcK]; exact qF_set hkn)
    · have hc2 := BP.f hc2
      refine Tri.skip ?_
      refine At.bln ?_
      refine At.thn (hK12 _ _ ?_); clear hK12
      refine Tri.region ?_
      refine st (OK1.mv (Has.t rfl)) rfl ?_
      refine st (OK1.addI (Has.t rfl) (Has.cI 1 rfl) (by first | omega | assumption) (by first | omega | assumption)) rfl ?_
      refine st (OK1.as (Has.t rfl)) rfl ?_
      refine nl ?_
      refine At.thn ?_
      refine hK9 (⟨(k + 1, Mk), by show 1 ≤ k + 1; omega, by show k + 1 ≤ n + 1; omega, by show _ = flM n (vals xs) (min (k + 1) n); rw [hMk, Nat.min_eq_right (by omega), Nat.min_eq_right (by omega)]⟩) _ _ ?_ (Cv.trans (Cv.drop ((.cons _ (.cons _ (.cons_cons _ (.cons_cons _ (.cons_cons _ (.cons_cons _ (.cons_cons _ .slnil))))))))) (Cv.mem (.cons (t := 8) (Has.t' rfl ?_) (.cons (t := 1) (Has.t rfl) (.cons (t := 2) (Has.t rfl) (.cons (t := 3) (Has.t rfl) (.cons (t := 4) (Has.t rfl) (.cons (t := 5) (Has.t rfl) (.cons (t := 6) (Has.t rfl) (.cons (t := 7) (Has.t rfl) .nil)))))))) ?_))
      · show n + 1 - (k + 1) < n + 1 - k; omega
      · exact isI_eq (by omega)
      · exact memQ_eq (by rw [Int.toNat_natCast, hcK]; exact qF_set hkn)
  · have hc1 := BP.f hc1
    have hkn : k = n + 1 := (by omega)
    refine Tri.exit ?_
    refine At.the ?_
    refine At.the ?_
    refine At.blh ?_
    refine At.thn (hK7 _ _ ?_); clear hK7
    refine Tri.cv (Cv.wk (.cons (t := 2) (Has.t rfl) (.cons (t := 3) (Has.t rfl) (.cons (t := 6) (Has.t rfl) (.cons (t := 7) (Has.t rfl) .nil))))) ?_
    refine Tri.seq fun K17 hK17 => ?_
    refine Tri.cv (Cv.freezeK (t := 6) (i := 1) (ys := (chL n (vals xs)).map nz) zc_len rfl rfl rfl (by rw [qF_len]; omega) (qF_fz hkn)) ?_
    refine Tri.memEq (M' := [_, _, _, _]) rfl ?_
    refine Tri.cv (Cv.wk (.cons (t := 2) (Has.t rfl) (.cons (t := 3) (Has.t rfl) (.cons (t := 6) (Has.t rfl) (.cons (t := 7) (Has.t rfl) .nil))))) ?_
    refine Tri.cv (Cv.wk (.cons (t := 3) (Has.t rfl) (.cons (t := 6) (Has.t rfl) (.cons (t := 7) (Has.t rfl) .nil)))) ?_
    refine Tri.dr ?_
    refine DrG.st (i := 0) [] rfl rfl rfl (by kernel_rfl) (OKG.o rfl (OK1.mv (Has.t rfl))) ?_
    refine DrG.st (i := 1) [67] rfl rfl rfl (by kernel_rfl) (OKG.o rfl (OK1.eq (OK1.call (zpoly_Norm (K := 1000) (by rw [vals_nz]; exact hcb.mono (by omega)) (by decide) (by rw [List.length_map, chL_len]; omega)) (.cons (Has.t rfl) .nil)) ((show _ = isP (chL n (vals xs)) from isPl_eq (by rw [vals_nz, chL_norm]))))) ?_
    refine DrG.st (i := 2) [] rfl rfl rfl (by kernel_rfl) (OKG.o rfl (OK1.load (Has.t rfl) (i := 0) rfl ty24 rfl (Ss' := [_, _, _]) rfl)) ?_
    refine DrG.st (i := 3) [68] rfl rfl rfl (by kernel_rfl) (OKG.o rfl (OK1.as (Has.t rfl))) ?_
    refine DrG.fin (n := 4) mixed (by kernel_rfl) (by kernel_rfl) (by kernel_rfl) ?_
    refine Ops.cv (Cv.wk (.cons (t := 3) (Has.t rfl) (.cons (t := 69) (Has.t rfl) (.cons (t := 2) (Has.t rfl) .nil)))) ?_
    refine Ops.store (Has.t rfl) (Has.t rfl) (i := 2) rfl ty24 rfl rfl (Ss' := [_, _, _]) rfl (M' := [_, _, (some _, cellM [_, _, _]), _]) rfl ?_
    refine nl ?_
    refine At.thn (hK17 _ _ ?_); clear hK17
    refine Tri.ret ?_
    refine rtN (.inl rfl) Try.results64 rfl rfl (.tmp (Has.t' rfl ?_) (.cell rfl (i := 2) rfl ty24 rfl ?_ .nil))
    · rfl
    · exact isMz_eq (by rw [hMk, hkn, Nat.min_eq_right (by omega)])
set_option maxHeartbeats 4000000 in
theorem zchar_Char {n K : Nat} {xs : List (Bool × List Nat)} (hx : Bd (vals xs) K) (hB : K + flB n K n + 2 * n ≤ 900) (hn : n ≤ 64) (hl : xs.length = n * n) : Ctr Try.prog 18 [isM (n : Int) (n : Int) xs] (isTup [isP (chL n (vals xs)), isI 0]) := by
  refine Ctr.intro Try.func18 rfl (by kernel_rfl) Try.ntmps18 rfl fun w0 F0 => ?_
  refine Tri.cv (Cv.wk (.cons (t := 0) (Has.t rfl) .nil)) ?_
  have hfo := formB_true hn hn hl
  have hfs : (formB (n : Int) (n : Int) xs.length && decide ((n : Int) = (n : Int))) = true := by rw [hfo]; simp
  refine Tri.seq fun K1 hK1 => ?_
  refine Tri.region ?_
  refine Ops.box (Has.t rfl) rfl fun b1 => ?_
  refine st (OK1.as (Has.cWK (k := 2) (fk := zc))) rfl ?_
  refine st (OK1.as (Has.cI 0 rfl)) rfl ?_
  refine nl ?_
  refine At.thn (hK1 _ _ ?_); clear hK1
  refine Tri.seq fun K2 hK2 => ?_
  refine Tri.seq fun K3 hK3 => ?_
  refine Tri.region ?_
  refine st (OK1.load (Has.t rfl) (i := 0) rfl ty24 rfl (Ss' := [_, _, _]) rfl) rfl ?_
  refine st (OK1.eq (OK1.call (zchar_square) (.cons (Has.t rfl) .nil)) ((show isB _ = isB true from isB_eq (hfs)))) rfl ?_
  refine st (OK1.not (Has.t rfl)) rfl ?_
  refine nl ?_
  refine At.thn (hK3 _ _ ?_); clear hK3
  refine Tri.cond (Has.t rfl) (fun hc1 => ?_) (fun hc1 => ?_)
  · have hc1 := BP.t hc1
    exfalso; simp at hc1
  · have hc1 := BP.f hc1
    refine Tri.skip ?_
    refine At.thn (hK2 _ _ ?_); clear hK2
    refine Tri.seq fun K4 hK4 => ?_
    refine Tri.region ?_
    refine st (OK1.load (Has.t rfl) (i := 0) rfl ty24 rfl (Ss' := [_, _, _]) rfl) rfl ?_
    refine st (OK1.call (zchar_steps hx hB hn hl) (.cons (Has.t rfl) .nil)) rfl ?_
    refine st (OK1.mv (Has.t rfl)) rfl ?_
    refine st (OK1.ext (Has.t rfl) rfl) rfl ?_
    refine st (OK1.ext (Has.t rfl) rfl) rfl ?_
    refine Ops.alloc [isI 0, isI 0, nilS] zero24 (fun _ _ => ⟨⟨rfl, by decide, by decide⟩, ⟨rfl, by decide, by decide⟩, rfl, trivial⟩) rfl fun b2 => ?_
    refine st (OK1.as (Has.t rfl)) rfl ?_
    refine Ops.store (Has.t rfl) (Has.t rfl) (i := 0) rfl ty24 rfl rfl (Ss' := [_, _, _]) rfl (M' := [(some _, cellM [_, _, _]), _]) rfl ?_
    refine nl ?_
    refine At.thn (hK4 _ _ ?_); clear hK4
    refine Tri.cv (Cv.wk (.cons (t := 2) (Has.t rfl) (.cons (t := 3) (Has.t rfl) (.cons (t := 4) (Has.t rfl) .nil)))) ?_
    refine Tri.seq fun K5 hK5 => ?_
    refine Tri.region ?_
    refine st (OK1.mv (Has.t rfl)) rfl ?_
    refine st (OK1.as (Has.t rfl)) rfl ?_
    refine st (OK1.as (Has.cI 0 rfl)) rfl ?_
    refine nl ?_
    refine At.thn (hK5 _ _ ?_); clear hK5
    refine Tri.ret ?_
    refine rtN (.inl rfl) Try.results18 rfl rfl (.tmp (Has.t' rfl ?_) (.tmp (Has.t' rfl ?_) .nil))
    · rfl
    · rfl
set_option maxHeartbeats 4000000 in
theorem zchar_Char_bad {r c : Int} {xs : List (Bool × List Nat)} (hf : (formB r c xs.length && decide (r = c)) = false) : Ctr Try.prog 18 [isM r c xs] (isTup [SlK 2 zc ([] : List (Bool × List Nat)), isI 2]) := by
  refine Ctr.intro Try.func18 rfl (by kernel_rfl) Try.ntmps18 rfl fun w0 F0 => ?_
  refine Tri.cv (Cv.wk (.cons (t := 0) (Has.t rfl) .nil)) ?_
  refine Tri.seq fun K1 hK1 => ?_
  refine Tri.region ?_
  refine Ops.box (Has.t rfl) rfl fun b1 => ?_
  refine st (OK1.as (Has.cWK (k := 2) (fk := zc))) rfl ?_
  refine st (OK1.as (Has.cI 0 rfl)) rfl ?_
  refine nl ?_
  refine At.thn (hK1 _ _ ?_); clear hK1
  refine Tri.seq fun K2 hK2 => ?_
  refine Tri.seq fun K3 hK3 => ?_
  refine Tri.region ?_
  refine st (OK1.load (Has.t rfl) (i := 0) rfl ty24 rfl (Ss' := [_, _, _]) rfl) rfl ?_
  refine st (OK1.eq (OK1.call (zchar_square) (.cons (Has.t rfl) .nil)) ((show isB _ = isB false from isB_eq (hf)))) rfl ?_
  refine st (OK1.not (Has.t rfl)) rfl ?_
  refine nl ?_
  refine At.thn (hK3 _ _ ?_); clear hK3
  refine Tri.cond (Has.t rfl) (fun hc1 => ?_) (fun hc1 => ?_)
  · have hc1 := BP.t hc1
    refine Tri.seq fun K4 hK4 => ?_
    refine Tri.region ?_
    refine st (OK1.as (Has.cWK (k := 2) (fk := zc))) rfl ?_
    refine st (OK1.as (Has.cI 2 rfl)) rfl ?_
    refine nl ?_
    refine At.thn (hK4 _ _ ?_); clear hK4
    refine Tri.ret ?_
    refine At.thr ?_
    refine rtN (.inl rfl) Try.results18 rfl rfl (.tmp (Has.t' rfl ?_) (.tmp (Has.t' rfl ?_) .nil))
    · rfl
    · rfl
  · have hc1 := BP.f hc1
    exfalso; simp at hc1
end Go.Proofs.Ytgkbekcpmbjbdaa
/- Contracts: the multiples that make a row. -/
namespace Go.Proofs.Ytgkbekcpmbjbdaa
open Go.En Go.RowKit
set_option linter.unusedVariables false
set_option maxRecDepth 10000
open Go.Nt
open Go.Pz
open Go.Mz
open Go.Hn
open Go.Hp
open Go.Dt
set_option maxHeartbeats 4000000 in
theorem sl_ContainsFuncZ {xs : List (Bool × List Nat)} {K : Nat} (hx : Bd (vals xs) K) : Ctr Try.prog 67 [SlK 2 zc xs, isFun (ι := { p : Bool × List Nat // (List.length (words (val p.2))) ≤ K }) Try.prog (fun p => [Flat (zc p.1)]) (fun p => isB (decide (zv p.1.1 p.1.2 ≠ 0)))] (isB (decide (0 ≤ fir xs.length (cf (vals xs))))) := by
  refine Ctr.intro Try.func67 rfl (by kernel_rfl) Try.ntmps67 rfl fun w0 F0 => ?_
  refine Tri.cv (Cv.wk (.cons (t := 0) (Has.t rfl) (.cons (t := 1) (Has.t rfl) .nil))) ?_
  refine Tri.fact (Has.lenLt (Has.t (t := 0) rfl)) fun lt0 => ?_
  refine Tri.seq fun K1 hK1 => ?_
  refine Tri.region ?_
  refine st (OK1.as (Has.cB false)) rfl ?_
  refine nl ?_
  refine At.thn (hK1 _ _ ?_); clear hK1
  refine Tri.seq fun K2 hK2 => ?_
  refine Tri.region ?_
  refine st (OK1.mv (Has.t rfl)) rfl ?_
  refine st (OK1.mv (Has.t rfl)) rfl ?_
  refine st (OK1.call (sl_IndexFuncZ hx) (.cons (Has.t rfl) (.cons (Has.t rfl) .nil))) rfl ?_
  refine st (OK1.geI (Has.t rfl) (Has.cI 0 rfl)) rfl ?_
  refine st (OK1.as (Has.t rfl)) rfl ?_
  refine nl ?_
  refine At.thn (hK2 _ _ ?_); clear hK2
  refine Tri.cv (Cv.wk (.cons (t := 4) (Has.t rfl) .nil)) ?_
  refine Tri.ret ?_
  refine rt1 (.inl rfl) Try.results67 rfl (.tmp (Has.t' rfl ?_) .nil)
  all_goals (rfl)
end Go.Proofs.Ytgkbekcpmbjbdaa
/- Contracts: polynomials' values at a matrix. -/
namespace Go.Proofs.Ytgkbekcpmbjbdaa
open Go.En Go.RowKit
set_option linter.unusedVariables false
set_option maxRecDepth 10000
open Go.Nt
open Go.Pz
open Go.Mz
open Go.Hn
open Go.Hp
open Go.Dt
open Go.Ch
set_option maxHeartbeats 4000000 in
theorem zchar_Eval {n K Q : Nat} {xs qs : List (Bool × List Nat)} (hx : Bd (vals xs) K) (hq : Bd (vals qs) Q) (hB : Q + qs.length * (K + n + 1) + K + n ≤ 900) (hn : n ≤ 64) (hl : xs.length = n * n) : Ctr Try.prog 17 [SlK 2 zc qs, isM (n : Int) (n : Int) xs] (isTup [isMz n n (evG n (vals xs) (vals qs) qs.length), isI 0]) := by
  refine Ctr.intro Try.func17 rfl (by kernel_rfl) Try.ntmps17 rfl fun w0 F0 => ?_
  refine Tri.cv (Cv.wk (.cons (t := 0) (Has.t rfl) (.cons (t := 1) (Has.t rfl) .nil))) ?_
  refine Tri.fact (Has.lenLt (Has.t (t := 0) rfl)) fun lt0 => ?_
  have hfo := formB_true hn hn hl
  have hfs : (formB (n : Int) (n : Int) xs.length && decide ((n : Int) = (n : Int))) = true := by rw [hfo]; simp
  have hRC := side_le hn hn
  have hOb : Bd (vals ((oneL n).map nz)) 1 := by rw [vals_nz]; exact oneL_bd n
  have hOl : ((oneL n).map nz).length = n * n := by rw [List.length_map, oneL_len]
  have hvq := vals_len qs
  refine Tri.seq fun K1 hK1 => ?_
  refine Tri.region ?_
  refine Ops.box (Has.t rfl) rfl fun b1 => ?_
  refine Ops.alloc [isI 0, isI 0, nilS] zero24 (fun _ _ => ⟨⟨rfl, by decide, by decide⟩, ⟨rfl, by decide, by decide⟩, rfl, trivial⟩) rfl fun b2 => ?_
  refine st (OK1.as (Has.cI 0 rfl)) rfl ?_
  refine nl ?_
  refine At.thn (hK1 _ _ ?_); clear hK1
  refine Tri.seq fun K2 hK2 => ?_
  refine Tri.seq fun K3 hK3 => ?_
  refine Tri.region ?_
  refine st (OK1.load (Has.t rfl) (i := 1) rfl ty24 rfl (Ss' := [_, _, _]) rfl) rfl ?_
  refine st (OK1.eq (OK1.call (zchar_square) (.cons (Has.t rfl) .nil)) ((show isB _ = isB true from isB_eq (hfs)))) rfl ?_
  refine st (OK1.not (Has.t rfl)) rfl ?_
  refine nl ?_
  refine At.thn (hK3 _ _ ?_); clear hK3
  refine Tri.cond (Has.t rfl) (fun hc1 => ?_) (fun hc1 => ?_)
  · have hc1 := BP.t hc1
    exfalso; simp at hc1
  · have hc1 := BP.f hc1
    refine Tri.skip ?_
    refine At.thn (hK2 _ _ ?_); clear hK2
    refine Tri.seq fun K4 hK4 => ?_
    refine Tri.region ?_
    refine st (OK1.fieldAddr (Has.t rfl) fld24_0 ty3) rfl ?_
    refine st (OK1.load1 (Has.t rfl) (i := 1) rfl ty3 rfl) rfl ?_
    refine st (OK1.call (zmat_Identity hn) (.cons (Has.t rfl) .nil)) rfl ?_
    refine st (OK1.ext (Has.t rfl) rfl) rfl ?_
    refine st (OK1.ext (Has.t rfl) rfl) rfl ?_
    refine st (OK1.call (zchar_must) (.cons (Has.t rfl) (.cons (Has.t rfl) .nil))) rfl ?_
    refine Ops.alloc [isI 0, isI 0, nilS] zero24 (fun _ _ => ⟨⟨rfl, by decide, by decide⟩, ⟨rfl, by decide, by decide⟩, rfl, trivial⟩) rfl fun b3 => ?_
    refine Ops.store (Has.t rfl) (Has.t rfl) (i := 0) rfl ty24 rfl rfl (Ss' := [_, _, _]) rfl (M' := [(some _, cellM [_, _, _]), _, _]) rfl ?_
    refine nl ?_
    refine At.thn (hK4 _ _ ?_); clear hK4
    refine Tri.cv (Cv.wk (.cons (t := 0) (Has.t rfl) (.cons (t := 3) (Has.t rfl) (.cons (t := 4) (Has.t rfl) (.cons (t := 5) (Has.t rfl) (.cons (t := 6) (Has.t rfl) .nil)))))) ?_
    refine Tri.seq fun K5 hK5 => ?_
    refine Tri.region ?_
    refine st (OK1.fieldAddr (Has.t rfl) fld24_0 ty3) rfl ?_
    refine st (OK1.load1 (Has.t rfl) (i := 2) rfl ty3 rfl) rfl ?_
    refine st (OK1.fieldAddr (Has.t rfl) fld24_0 ty3) rfl ?_
    refine st (OK1.load1 (Has.t rfl) (i := 2) rfl ty3 rfl) rfl ?_
    refine st (OK1.call (zmat_New hn) (.cons (Has.t rfl) (.cons (Has.t rfl) .nil))) rfl ?_
    refine st (OK1.ext (Has.t rfl) rfl) rfl ?_
    refine st (OK1.ext (Has.t rfl) rfl) rfl ?_
    refine st (OK1.call (zchar_must) (.cons (Has.t rfl) (.cons (Has.t rfl) .nil))) rfl ?_
    refine Ops.alloc [isI 0, isI 0, nilS] zero24 (fun _ _ => ⟨⟨rfl, by decide, by decide⟩, ⟨rfl, by decide, by decide⟩, rfl, trivial⟩) rfl fun b4 => ?_
    refine Ops.store (Has.t rfl) (Has.t rfl) (i := 0) rfl ty24 rfl rfl (Ss' := [_, _, _]) rfl (M' := [(some _, cellM [_, _, _]), _, _, _]) rfl ?_
    refine nl ?_
    refine At.thn (hK5 _ _ ?_); clear hK5
    refine Tri.cv (Cv.wk (.cons (t := 0) (Has.t rfl) (.cons (t := 3) (Has.t rfl) (.cons (t := 4) (Has.t rfl) (.cons (t := 5) (Has.t rfl) (.cons (t := 6) (Has.t rfl) (.cons (t := 7) (Has.t rfl) .nil))))))) ?_
    refine Tri.seq fun K6 hK6 => ?_
    refine Tri.seq fun K7 hK7 => ?_
    refine Tri.region ?_
    refine st (OK1.mv (Has.t rfl)) rfl ?_
    refine st (OK1.len sl34 (Has.t rfl)) rfl ?_
    refine st (OK1.eq (OK1.subI (Has.t rfl) (Has.cI 1 rfl) (by first | omega | assumption) (by first | omega | assumption)) ((show isI _ = isI ((qs.length : Int) - 1 - ((0 : Nat) : Int)) from isI_eq (by omega)))) rfl ?_
    refine st (OK1.as (Has.t rfl)) rfl ?_
    refine nl ?_
    refine At.thn (hK7 _ _ ?_); clear hK7
    refine Tri.block ?_
    refine Tri.loopF [0, 3, 4, 5, 6, 7] (fun (z : { z : Nat × List Int // z.1 ≤ qs.length ∧ z.2 = evG n (vals xs) (vals qs) z.1 }) => match z with | ⟨(j, E), hI⟩ => [(8, isI ((qs.length : Int) - 1 - (j : Int)))]) (fun M => fun (z : { z : Nat × List Int // z.1 ≤ qs.length ∧ z.2 = evG n (vals xs) (vals qs) z.1 }) => match z with | ⟨(j, E), hI⟩ => [(some b4, cellM [isI (n : Int), isI (n : Int), SlK 2 zc (E.map nz)]), (some b3, cellM [isI (n : Int), isI (n : Int), SlK 2 zc ((oneL n).map nz)]), (some b2, cellM [isI 0, isI 0, nilS]), (some b1, cellM [isI (n : Int), isI (n : Int), SlK 2 zc xs])]) (fun (z : { z : Nat × List Int // z.1 ≤ qs.length ∧ z.2 = evG n (vals xs) (vals qs) z.1 }) => match z with | ⟨(j, E), hI⟩ => qs.length - j) (⟨(0, zerL n), Nat.zero_le _, rfl⟩) (Cv.mem (.cons (t := 8) (Has.t' rfl ?_) (.cons (t := 0) (Has.t rfl) (.cons (t := 3) (Has.t rfl) (.cons (t := 4) (Has.t rfl) (.cons (t := 5) (Has.t rfl) (.cons (t := 6) (Has.t rfl) (.cons (t := 7) (Has.t rfl) .nil))))))) ?_) ?_
    · rfl
    · rfl
    rintro ⟨⟨j, E⟩, hI⟩ K8 hK8
    refine Tri.cv (Cv.wk (.cons (t := 8) (Has.t rfl) (.cons (t := 0) (Has.t rfl) (.cons (t := 3) (Has.t rfl) (.cons (t := 4) (Has.t rfl) (.cons (t := 5) (Has.t rfl) (.cons (t := 6) (Has.t rfl) (.cons (t := 7) (Has.t rfl) .nil)))))))) ?_
    refine Tri.memEq (M' := [(some b4, cellM [isI (n : Int), isI (n : Int), SlK 2 zc (E.map nz)]), (some b3, cellM [isI (n : Int), isI (n : Int), SlK 2 zc ((oneL n).map nz)]), (some b2, cellM [isI 0, isI 0, nilS]), (some b1, cellM [isI (n : Int), isI (n : Int), SlK 2 zc xs])]) rfl ?_
    simp only [] at hI
    obtain ⟨hj, hE⟩ := hI
    have hjm : j * (K + n + 1) ≤ qs.length * (K + n + 1) := Nat.mul_le_mul_right _ hj
    have hEb : Bd E (Q + j * (K + n + 1)) := by rw [hE]; exact evG_bd hx hq j
    have hEl : E.length = n * n := by rw [hE]; exact evG_len _ _ _ _
    refine Tri.seq fun K9 hK9 => ?_
    refine Tri.seq fun K10 hK10 => ?_
    refine Tri.region ?_
    refine st (OK1.mv (Has.t rfl)) rfl ?_
    refine st (OK1.geI (Has.t rfl) (Has.cI 0 rfl)) rfl ?_
    refine nl ?_
    refine At.thn (hK10 _ _ ?_); clear hK10
    refine Tri.cond (Has.t rfl) (fun hc2 => ?_) (fun hc2 => ?_)
    · have hc2 := BP.t hc2
      have hj2 : j < qs.length := (by omega)
      have hqr := hq.raw ((((qs.length - 1 - j) : Nat) : Int)).toNat
      have hqc := hq (qs.length - 1 - j)
      refine Tri.skip ?_
      refine At.thn (hK9 _ _ ?_); clear hK9
      refine Tri.seq fun K11 hK11 => ?_
      refine Tri.block ?_
      refine Tri.dr ?_
      refine DrG.st (i := 0) [] rfl rfl rfl (by kernel_rfl) (OKG.o rfl (OK1.load (Has.t rfl) (i := 0) rfl ty24 rfl (Ss' := [_, _, _]) rfl)) ?_
      refine DrG.st (i := 1) [] rfl rfl rfl (by kernel_rfl) (OKG.o rfl (OK1.load (Has.t rfl) (i := 3) rfl ty24 rfl (Ss' := [_, _, _]) rfl)) ?_
      refine DrG.st (i := 2) [34, 35] rfl rfl rfl (by kernel_rfl) (OKG.o rfl (OK1.eq (OK1.call (zmat_Mul (R := n) (C := n) (D := n) (K := Q + j * (K + n + 1)) (L := K) (xs := E.map nz) (by rw [vals_nz]; exact hEb) hx (by omega) hn hn hn (by rw [List.length_map]; exact hEl) hl) (.cons (Has.t rfl) (.cons (Has.t rfl) .nil))) ((show _ = isTup [isMz n n (prdL n E (vals xs)), isI 0] from by rw [vals_nz]; rfl)))) ?_
      refine DrG.st (i := 3) [36] rfl rfl rfl (by kernel_rfl) (OKG.o rfl (OK1.ext (Has.t rfl) rfl)) ?_
      refine DrG.st (i := 4) [36] rfl rfl rfl (by kernel_rfl) (OKG.o rfl (OK1.ext (Has.t rfl) rfl)) ?_
      refine DrG.st (i := 5) [37, 38] rfl rfl rfl (by kernel_rfl) (OKG.o rfl (OK1.call (zchar_must) (.cons (Has.t rfl) (.cons (Has.t rfl) .nil)))) ?_
      refine DrG.st (i := 6) [] rfl rfl rfl (by kernel_rfl) (OKG.o rfl (OK1.load (Has.t rfl) (i := 1) rfl ty24 rfl (Ss' := [_, _, _]) rfl)) ?_
      refine DrG.st (i := 7) [] rfl rfl rfl (by kernel_rfl) (OKG.o rfl (OK1.mv (Has.t rfl))) ?_
      refine DrG.st (i := 8) [] rfl rfl rfl (by kernel_rfl) (OKG.o rfl (OK1.eq (OK1.mv (Has.t rfl)) ((show isI _ = isI ((qs.length - 1 - j) : Nat) from isI_eq (by omega))))) ?_
      refine DrG.st (i := 9) [41, 42] rfl rfl rfl (by kernel_rfl) (OKG.o rfl (OK1.ixK sl34 ty44 (Has.t rfl) (Has.t rfl) zc_len ⟨by omega, by omega⟩ (getD_some (d := (false, [])) (by first | omega | (simp only [Int.toNat_natCast, List.length_set]; omega))))) ?_
      refine DrG.st (i := 10) [43] rfl rfl rfl (by kernel_rfl) (OKG.o rfl (OK1.loadP (Has.t rfl) ty44 rfl (Ss' := [_, _]) rfl)) ?_
      refine DrG.st (i := 11) [40, 44] rfl rfl rfl (by kernel_rfl) (OKG.o rfl (OK1.eq (OK1.call (zmat_Scale (R := n) (C := n) (K := 1) hOb (by decide) (by omega) hn hn hOl) (.cons (Has.t rfl) (.cons (Has.t rfl) .nil))) ((show _ = isTup [isMz n n (sclL n n (cf (vals qs) (qs.length - 1 - j)) (oneL n)), isI 0] from by rw [vals_nz, cf_vals]; rfl)))) ?_
      refine DrG.st (i := 12) [45] rfl rfl rfl (by kernel_rfl) (OKG.o rfl (OK1.ext (Has.t rfl) rfl)) ?_
      refine DrG.st (i := 13) [45] rfl rfl rfl (by kernel_rfl) (OKG.o rfl (OK1.ext (Has.t rfl) rfl)) ?_
      refine DrG.st (i := 14) [46, 47] rfl rfl rfl (by kernel_rfl) (OKG.o rfl (OK1.call (zchar_must) (.cons (Has.t rfl) (.cons (Has.t rfl) .nil)))) ?_
      refine DrG.st (i := 15) [39, 48] rfl rfl rfl (by kernel_rfl) (OKG.o rfl (OK1.eq (OK1.call (zmat_Add (K := 1000) (xs := (prdL n E (vals xs)).map nz) (ys := (sclL n n (cf (vals qs) (qs.length - 1 - j)) (oneL n)).map nz) (by rw [vals_nz]; exact (prdL_bd hEb hx).mono (by omega)) (by rw [vals_nz]; exact (scl_one_bd hqc).mono (by omega)) (by decide) hn (by rw [List.length_map, prdL_len]) (by rw [List.length_map, sclL_len])) (.cons (Has.t rfl) (.cons (Has.t rfl) .nil))) ((show _ = isTup [isMz n n (sumL n (prdL n E (vals xs)) (sclL n n (cf (vals qs) (qs.length - 1 - j)) (oneL n))), isI 0] from by rw [vals_nz, vals_nz])))) ?_
      refine DrG.st (i := 16) [49] rfl rfl rfl (by kernel_rfl) (OKG.o rfl (OK1.ext (Has.t rfl) rfl)) ?_
      refine DrG.st (i := 17) [49] rfl rfl rfl (by kernel_rfl) (OKG.o rfl (OK1.ext (Has.t rfl) rfl)) ?_
      refine DrG.fin (n := 18) mixed (by kernel_rfl) (by kernel_rfl) (by kernel_rfl) ?_
      refine Ops.cv (Cv.wk (.cons (t := 0) (Has.t rfl) (.cons (t := 3) (Has.t rfl) (.cons (t := 4) (Has.t rfl) (.cons (t := 5) (Has.t rfl) (.cons (t := 6) (Has.t rfl) (.cons (t := 7) (Has.t rfl) (.cons (t := 8) (Has.t rfl) (.cons (t := 30) (Has.t rfl) (.cons (t := 31) (Has.t rfl) (.cons (t := 34) (Has.t rfl) (.cons (t := 35) (Has.t rfl) (.cons (t := 36) (Has.t rfl) (.cons (t := 37) (Has.t rfl) (.cons (t := 38) (Has.t rfl) (.cons (t := 39) (Has.t rfl) (.cons (t := 40) (Has.t rfl) (.cons (t := 41) (Has.t rfl) (.cons (t := 42) (Has.t rfl) (.cons (t := 43) (Has.t rfl) (.cons (t := 44) (Has.t rfl) (.cons (t := 45) (Has.t rfl) (.cons (t := 46) (Has.t rfl) (.cons (t := 47) (Has.t rfl) (.cons (t := 48) (Has.t rfl) (.cons (t := 49) (Has.t rfl) (.cons (t := 50) (Has.t rfl) (.cons (t := 51) (Has.t rfl) .nil)))))))))))))))))))))))))))) ?_
      refine st (OK1.call (zchar_must) (.cons (Has.t rfl) (.cons (Has.t rfl) .nil))) rfl ?_
      refine Ops.store (Has.t rfl) (Has.t rfl) (i := 0) rfl ty24 rfl rfl (Ss' := [_, _, _]) rfl (M' := [(some _, cellM [_, _, _]), _, _, _]) rfl ?_
      refine nl ?_
      refine At.bln ?_
      refine At.thn (hK11 _ _ ?_); clear hK11
      refine Tri.region ?_
      refine st (OK1.mv (Has.t rfl)) rfl ?_
      refine st (OK1.subI (Has.t rfl) (Has.cI 1 rfl) (by first | omega | assumption) (by first | omega | assumption)) rfl ?_
      refine st (OK1.as (Has.t rfl)) rfl ?_
      refine nl ?_
      refine At.thn ?_
      refine hK8 (⟨(j + 1, sumL n (prdL n E (vals xs)) (sclL n n (cf (vals qs) (qs.length - 1 - j)) (oneL n))), by show j + 1 ≤ qs.length; omega, by show _ = evG n (vals xs) (vals qs) (j + 1); rw [hE, ← hvq]; rfl⟩) _ _ ?_ (Cv.mem (.cons (t := 8) (Has.t' rfl ?_) (.cons (t := 0) (Has.t rfl) (.cons (t := 3) (Has.t rfl) (.cons (t := 4) (Has.t rfl) (.cons (t := 5) (Has.t rfl) (.cons (t := 6) (Has.t rfl) (.cons (t := 7) (Has.t rfl) .nil))))))) ?_)
      · show qs.length - (j + 1) < qs.length - j; omega
      · exact isI_eq (by omega)
      · rfl
    · have hc2 := BP.f hc2
      skip
      refine Tri.exit ?_
      refine At.the ?_
      refine At.the ?_
      refine At.blh ?_
      refine At.thn (hK6 _ _ ?_); clear hK6
      refine Tri.cv (Cv.wk (.cons (t := 4) (Has.t rfl) (.cons (t := 5) (Has.t rfl) (.cons (t := 7) (Has.t rfl) .nil)))) ?_
      refine Tri.seq fun K12 hK12 => ?_
      refine Tri.region ?_
      refine st (OK1.load (Has.t rfl) (i := 0) rfl ty24 rfl (Ss' := [_, _, _]) rfl) rfl ?_
      refine Ops.store (Has.t rfl) (Has.t rfl) (i := 2) rfl ty24 rfl rfl (Ss' := [_, _, _]) rfl (M' := [_, _, (some _, cellM [_, _, _]), _]) rfl ?_
      refine st (OK1.as (Has.cI 0 rfl)) rfl ?_
      refine nl ?_
      refine At.thn (hK12 _ _ ?_); clear hK12
      refine Tri.ret ?_
      refine rtN (.inl rfl) Try.results17 rfl rfl (.cell rfl (i := 2) rfl ty24 rfl ?_ (.tmp (Has.t' rfl ?_) .nil))
      · exact isMz_eq (by rw [hE, show j = qs.length by omega])
      · rfl
set_option maxHeartbeats 4000000 in
theorem zchar_Eval_bad {r c : Int} {xs : List (Bool × List Nat)} (hf : (formB r c xs.length && decide (r = c)) = false) {qs : List (Bool × List Nat)} : Ctr Try.prog 17 [SlK 2 zc qs, isM r c xs] (isTup [isM0, isI 2]) := by
  refine Ctr.intro Try.func17 rfl (by kernel_rfl) Try.ntmps17 rfl fun w0 F0 => ?_
  refine Tri.cv (Cv.wk (.cons (t := 0) (Has.t rfl) (.cons (t := 1) (Has.t rfl) .nil))) ?_
  refine Tri.fact (Has.lenLt (Has.t (t := 0) rfl)) fun lt0 => ?_
  refine Tri.seq fun K1 hK1 => ?_
  refine Tri.region ?_
  refine Ops.box (Has.t rfl) rfl fun b1 => ?_
  refine Ops.alloc [isI 0, isI 0, SlK 2 zc ([] : List (Bool × List Nat))] zero24 (fun _ _ => ⟨⟨rfl, by decide, by decide⟩, ⟨rfl, by decide, by decide⟩, nilK, trivial⟩) rfl fun b2 => ?_
  refine st (OK1.as (Has.cI 0 rfl)) rfl ?_
  refine nl ?_
  refine At.thn (hK1 _ _ ?_); clear hK1
  refine Tri.seq fun K2 hK2 => ?_
  refine Tri.seq fun K3 hK3 => ?_
  refine Tri.region ?_
  refine st (OK1.load (Has.t rfl) (i := 1) rfl ty24 rfl (Ss' := [_, _, _]) rfl) rfl ?_
  refine st (OK1.eq (OK1.call (zchar_square) (.cons (Has.t rfl) .nil)) ((show isB _ = isB false from isB_eq (hf)))) rfl ?_
  refine st (OK1.not (Has.t rfl)) rfl ?_
  refine nl ?_
  refine At.thn (hK3 _ _ ?_); clear hK3
  refine Tri.cond (Has.t rfl) (fun hc1 => ?_) (fun hc1 => ?_)
  · have hc1 := BP.t hc1
    refine Tri.seq fun K4 hK4 => ?_
    refine Tri.region ?_
    refine st (OK1.build [isI 0, isI 0, SlK 2 zc ([] : List (Bool × List Nat))] pl24 zero24 (fun _ _ => ⟨⟨rfl, by decide, by decide⟩, ⟨rfl, by decide, by decide⟩, nilK, trivial⟩) .nil (Z'' := [_, _, _]) rfl) rfl ?_
    refine Ops.store (Has.t rfl) (Has.t rfl) (i := 0) rfl ty24 rfl rfl (Ss' := [_, _, _]) rfl (M' := [(some _, cellM [_, _, _]), _]) rfl ?_
    refine st (OK1.as (Has.cI 2 rfl)) rfl ?_
    refine nl ?_
    refine At.thn (hK4 _ _ ?_); clear hK4
    refine Tri.cv (Cv.wk (.cons (t := 0) (Has.t rfl) (.cons (t := 3) (Has.t rfl) (.cons (t := 4) (Has.t rfl) (.cons (t := 5) (Has.t rfl) .nil))))) ?_
    refine Tri.ret ?_
    refine At.thr ?_
    refine rtN (.inl rfl) Try.results17 rfl rfl (.cell rfl (i := 0) rfl ty24 rfl ?_ (.tmp (Has.t' rfl ?_) .nil))
    · rfl
    · rfl
  · have hc1 := BP.f hc1
    exfalso; simp at hc1
set_option maxHeartbeats 4000000 in
theorem zmat_Zero_1 {m : Bool} {xs : List Nat} (hx : (List.length (words (val xs))) < 4294700000) : Ctr Try.prog 68 [Flat [isB m, isWords xs]] (isB (decide (zv m xs ≠ 0))) := by
  refine Ctr.intro Try.func68 rfl (by kernel_rfl) Try.ntmps68 rfl fun w0 F0 => ?_
  refine Tri.cv (Cv.wk (.cons (t := 0) (Has.t rfl) .nil)) ?_
  refine Tri.fact (Has.okZ (Has.t (t := 0) rfl)) fun okz0 => ?_
  refine Tri.seq fun K1 hK1 => ?_
  refine Tri.region ?_
  refine Ops.box (Has.t rfl) rfl fun b1 => ?_
  refine st (OK1.as (Has.cB false)) rfl ?_
  refine nl ?_
  refine At.thn (hK1 _ _ ?_); clear hK1
  refine Tri.seq fun K2 hK2 => ?_
  refine Tri.region ?_
  refine st (OK1.load (Has.t rfl) (i := 0) rfl ty44 rfl (Ss' := [_, _]) rfl) rfl ?_
  refine st (OK1.call (zint_Sign (by omega)) (.cons (Has.t rfl) .nil)) rfl ?_
  refine st (OK1.neI (Has.t rfl) (Has.cI 0 rfl)) rfl ?_
  refine st (OK1.as (Has.t rfl)) rfl ?_
  refine nl ?_
  refine At.thn (hK2 _ _ ?_); clear hK2
  refine Tri.cv (Cv.wk (.cons (t := 2) (Has.t rfl) .nil)) ?_
  refine Tri.ret ?_
  refine rt1 (.inl rfl) Try.results68 rfl (.tmp (Has.t' rfl ?_) .nil)
  all_goals (exact isB_eq (by simp [sgn_eq0]))
set_option maxHeartbeats 4000000 in
theorem zmat_Zero {r c : Int} {xs : List (Bool × List Nat)} {K : Nat} (hx : Bd (vals xs) K) (hK : K ≤ 400000000) (hf : formB r c xs.length = true) (hz : ∀ j, cf (vals xs) j = 0) : Ctr Try.prog 20 [isM r c xs] (isB true) := by
  refine Ctr.intro Try.func20 rfl (by kernel_rfl) Try.ntmps20 rfl fun w0 F0 => ?_
  refine Tri.cv (Cv.wk (.cons (t := 0) (Has.t rfl) .nil)) ?_
  refine Tri.seq fun K1 hK1 => ?_
  refine Tri.region ?_
  refine Ops.box (Has.t rfl) rfl fun b1 => ?_
  refine st (OK1.as (Has.cB false)) rfl ?_
  refine nl ?_
  refine At.thn (hK1 _ _ ?_); clear hK1
  refine Tri.seq fun K2 hK2 => ?_
  refine Tri.region ?_
  refine st (OK1.load (Has.t rfl) (i := 0) rfl ty24 rfl (Ss' := [_, _, _]) rfl) rfl ?_
  refine st (OK1.eq (OK1.call (zmat_Formed) (.cons (Has.t rfl) .nil)) ((show isB _ = isB true from isB_eq (hf)))) rfl ?_
  refine st (OK1.mv (Has.t rfl)) rfl ?_
  refine stT rfl rfl (fun hg => have hg' := BP.t hg; OK1.fieldAddr (Has.t rfl) fld24_2 ty22) rfl ?_
  refine stT rfl rfl (fun hg => have hg' := BP.t hg; OK1.load1 (Has.g rfl hg) (i := 0) rfl ty22 rfl) rfl ?_
  refine stT rfl rfl (fun hg => have hg' := BP.t hg; OK1.eq (OK1.call (sl_ContainsFuncZ (K := K) hx) (.cons (Has.g rfl hg) (.cons (Has.fn (fun p => zmat_Zero_1 (Nat.lt_of_le_of_lt p.2 (by omega)))) .nil))) ((show _ = isB false from isB_eq (decide_eq_false (by rw [fir_all fun j _ => hz j]; decide))))) rfl ?_
  refine stT rfl rfl (fun hg => have hg' := BP.t hg; OK1.not (Has.g rfl hg)) rfl ?_
  refine st (OK1.pickAnd (Has.t rfl) (fun h => Has.g rfl h)) rfl ?_
  refine st (OK1.as (Has.t rfl)) rfl ?_
  refine nl ?_
  refine At.thn (hK2 _ _ ?_); clear hK2
  refine Tri.cv (Cv.wk (.cons (t := 2) (Has.t rfl) .nil)) ?_
  refine Tri.ret ?_
  refine rt1 (.inl rfl) Try.results20 rfl (.tmp (Has.t' rfl ?_) .nil)
  all_goals (rfl)
end Go.Proofs.Ytgkbekcpmbjbdaa
/- Contracts: sums, differences, multiples of polynomials. -/
namespace Go.Proofs.Ytgkbekcpmbjbdaa
open Go.En Go.RowKit
set_option linter.unusedVariables false
set_option maxRecDepth 10000
open Go.Nt
open Go.Pz
set_option maxHeartbeats 4000000 in
theorem zpoly_both {op : Int → Int → Int} {xs ys : List (Bool × List Nat)} {K L : Nat} (hx : Bd (vals xs) K) (hy : Bd (vals ys) K) (hop : ∀ i, (List.length (words (op (cf (vals xs) i) (cf (vals ys) i)).natAbs)) ≤ L) (hL : L ≤ 4000000000) (h0 : op 0 0 = 0) (hn : xs.length ≤ 1000000) (hm : ys.length ≤ 1000000) : Ctr Try.prog 97 [SlK 2 zc xs, SlK 2 zc ys, isOp Try.prog K op] (isP (both op (vals xs) (vals ys))) := by
  refine Ctr.intro Try.func97 rfl (by kernel_rfl) Try.ntmps97 rfl fun w0 F0 => ?_
  refine Tri.cv (Cv.wk (.cons (t := 0) (Has.t rfl) (.cons (t := 1) (Has.t rfl) (.cons (t := 2) (Has.t rfl) .nil)))) ?_
  refine Tri.fact (Has.lenLt (Has.t (t := 0) rfl)) fun lt0 => ?_
  refine Tri.fact (Has.lenLt (Has.t (t := 1) rfl)) fun lt1 => ?_
  obtain ⟨F, hF⟩ : ∃ F, F = (List.range (max xs.length ys.length)).map fun i => op (cf (vals xs) i) (cf (vals ys) i) := ⟨_, rfl⟩
  have hFl : F.length = max xs.length ys.length := by rw [hF, List.length_map, List.length_range]
  have hFb : Bd F L := fun i => by
    rw [hF, cf_tab]
    split
    · exact hop i
    · rw [Int.natAbs_zero, words_zero]; exact Nat.zero_le _
  refine Tri.seq fun K1 hK1 => ?_
  refine Tri.region ?_
  refine st (OK1.as (Has.cWK (k := 2) (fk := zc))) rfl ?_
  refine nl ?_
  refine At.thn (hK1 _ _ ?_); clear hK1
  refine Tri.seq fun K2 hK2 => ?_
  refine Tri.region ?_
  refine st (OK1.mv (Has.t rfl)) rfl ?_
  refine st (OK1.len sl34 (Has.t rfl)) rfl ?_
  refine st (OK1.mv (Has.t rfl)) rfl ?_
  refine st (OK1.len sl34 (Has.t rfl)) rfl ?_
  refine st (OK1.eq (OK1.maxI (Has.t rfl) (Has.t rfl)) ((show isI _ = isI ((max xs.length ys.length : Nat) : Int) from isI_eq (by omega)))) rfl ?_
  refine Ops.makeK (fk := zc) (u := (false, [])) (n := max xs.length ys.length) (c := max xs.length ys.length) sl34 ty44 zero44 (fun _ _ => ⟨rfl, nilM _ _, trivial⟩) zc_len by44 (Has.t' rfl rfl) (Has.t' rfl rfl) ⟨by omega, by omega⟩ rfl fun b1 => ?_
  refine st (OK1.as (Has.t rfl)) rfl ?_
  refine nl ?_
  refine At.thn (hK2 _ _ ?_); clear hK2
  refine Tri.cv (Cv.wk (.cons (t := 0) (Has.t rfl) (.cons (t := 1) (Has.t rfl) (.cons (t := 2) (Has.t rfl) (.cons (t := 6) (Has.t rfl) (.cons (t := 7) (Has.t rfl) .nil)))))) ?_
  refine Tri.seq fun K3 hK3 => ?_
  refine Tri.seq fun K4 hK4 => ?_
  refine Tri.region ?_
  refine st (OK1.mv (Has.t rfl)) rfl ?_
  refine st (OK1.len sl34 (Has.t rfl)) rfl ?_
  refine st (OK1.mv (Has.cI 0 rfl)) rfl ?_
  refine nl ?_
  refine At.thn (hK4 _ _ ?_); clear hK4
  refine Tri.block ?_
  refine Tri.loopF [0, 1, 2, 6, 7, 16] (fun (z : { i : Nat // i ≤ max xs.length ys.length }) => match z with | ⟨i, hi⟩ => [(17, isI (i : Int))]) (fun M => fun (z : { i : Nat // i ≤ max xs.length ys.length }) => match z with | ⟨i, hi⟩ => [(some b1, cellM ((fill (F.map nz) i (false, [])).flatMap zc))]) (fun (z : { i : Nat // i ≤ max xs.length ys.length }) => match z with | ⟨i, hi⟩ => max xs.length ys.length - i) (⟨0, Nat.zero_le _⟩) (Cv.mem (.cons (t := 17) (Has.t' rfl ?_) (.cons (t := 0) (Has.t rfl) (.cons (t := 1) (Has.t rfl) (.cons (t := 2) (Has.t rfl) (.cons (t := 6) (Has.t rfl) (.cons (t := 7) (Has.t rfl) (.cons (t := 16) (Has.t rfl) .nil))))))) ?_) ?_
  · rfl
  · exact memZ_eq (by rw [fill_zero, List.length_map, hFl])
  rintro ⟨i, hi⟩ K5 hK5
  refine Tri.cv (Cv.wk (.cons (t := 17) (Has.t rfl) (.cons (t := 0) (Has.t rfl) (.cons (t := 1) (Has.t rfl) (.cons (t := 2) (Has.t rfl) (.cons (t := 6) (Has.t rfl) (.cons (t := 7) (Has.t rfl) (.cons (t := 16) (Has.t rfl) .nil)))))))) ?_
  refine Tri.memEq (M' := [(some b1, cellM ((fill (F.map nz) i (false, [])).flatMap zc))]) rfl ?_
  refine Tri.seq fun K6 hK6 => ?_
  refine Tri.region ?_
  refine st (OK1.ltI (Has.t rfl) (Has.t rfl)) rfl ?_
  refine nl ?_
  refine At.thn (hK6 _ _ ?_); clear hK6
  refine Tri.seq fun K7 hK7 => ?_
  refine Tri.cond (Has.t rfl) (fun hc1 => ?_) (fun hc1 => ?_)
  · have hc1 := BP.t hc1
    refine Tri.skip ?_
    refine At.thn (hK7 _ _ ?_); clear hK7
    refine Tri.seq fun K8 hK8 => ?_
    refine Tri.block ?_
    refine Tri.seq fun K9 hK9 => ?_
    refine Tri.region ?_
    refine st (OK1.mv (Has.t rfl)) rfl ?_
    refine st (OK1.as (Has.t rfl)) rfl ?_
    refine nl ?_
    refine At.thn (hK9 _ _ ?_); clear hK9
    refine Tri.region ?_
    refine st (OK1.mv (Has.t rfl)) rfl ?_
    refine st (OK1.mv (Has.t rfl)) rfl ?_
    refine st (OK1.mv (Has.t rfl)) rfl ?_
    refine st (OK1.mv (Has.t rfl)) rfl ?_
    refine st (OK1.mv (Has.t rfl)) rfl ?_
    refine st (OK1.call (zpoly_at) (.cons (Has.t rfl) (.cons (Has.t rfl) .nil))) rfl ?_
    refine st (OK1.mv (Has.t rfl)) rfl ?_
    refine st (OK1.mv (Has.t rfl)) rfl ?_
    refine st (OK1.call (zpoly_at) (.cons (Has.t rfl) (.cons (Has.t rfl) .nil))) rfl ?_
    refine st (OK1.eq (OK1.callV ⟨(xs.getD i (false, []), ys.getD i (false, [])), hx.raw i, hy.raw i⟩ (Has.t rfl) (.cons (Has.t rfl) (.cons (Has.t rfl) .nil))) ((show isZ _ = Flat (zc (nz (op (cf (vals xs) i) (cf (vals ys) i)))) from isZ_eq (by rw [cf_vals, cf_vals])))) rfl ?_
    refine st (OK1.eq (OK1.ixWin sl34 ty44 (Has.t rfl) (Has.t rfl) ⟨by omega, by omega⟩) (isPtr_eq (by first | exact ixo0 | exact ixo2 | exact ixo1))) rfl ?_
    refine Ops.storeK (z := nz (op (cf (vals xs) i) (cf (vals ys) i))) zc_len (Has.t rfl) (Has.t rfl) (i := 0) rfl ty44 (by rw [fill_len _ _ _ (by rw [List.length_map]; omega), List.length_map]; omega) (M' := [(_, _)]) rfl ?_
    refine nl ?_
    refine At.bln ?_
    refine At.thn (hK8 _ _ ?_); clear hK8
    refine Tri.region ?_
    refine st (OK1.addI (Has.t rfl) (Has.cI 1 rfl) (by first | omega | assumption) (by first | omega | assumption)) rfl ?_
    refine st (OK1.mv (Has.t rfl)) rfl ?_
    refine nl ?_
    refine At.thn ?_
    refine hK5 (⟨i + 1, by omega⟩) _ _ ?_ (Cv.mem (.cons (t := 17) (Has.t' rfl ?_) (.cons (t := 0) (Has.t rfl) (.cons (t := 1) (Has.t rfl) (.cons (t := 2) (Has.t rfl) (.cons (t := 6) (Has.t rfl) (.cons (t := 7) (Has.t rfl) (.cons (t := 16) (Has.t rfl) .nil))))))) ?_)
    · show max xs.length ys.length - (i + 1) < max xs.length ys.length - i; omega
    · exact isI_eq (by omega)
    · exact memF_eq (by rw [List.getElem?_map, hF, List.getElem?_map, List.getElem?_range (by omega)]; rfl)
  · have hc1 := BP.f hc1
    refine Tri.exit ?_
    refine At.the ?_
    refine At.the ?_
    refine At.blh ?_
    refine At.thn (hK3 _ _ ?_); clear hK3
    refine Tri.cv (Cv.wk (.cons (t := 6) (Has.t rfl) (.cons (t := 7) (Has.t rfl) .nil))) ?_
    refine Tri.seq fun K10 hK10 => ?_
    refine Tri.cv (Cv.freezeK (t := 7) (i := 0) (ys := F.map nz) zc_len rfl rfl rfl (by rw [fill_len _ _ _ (by rw [List.length_map]; omega), List.length_map]; omega) (fill_done (by rw [List.length_map]; omega) (by rw [List.length_map, hFl]))) ?_
    refine Tri.memEq (M' := []) rfl ?_
    refine Tri.cv (Cv.wk (.cons (t := 6) (Has.t rfl) (.cons (t := 7) (Has.t rfl) .nil))) ?_
    refine Tri.region ?_
    refine st (OK1.mv (Has.t rfl)) rfl ?_
    refine st (OK1.call (zpoly_Norm (K := L) (by rw [vals_nz]; exact hFb) hL (by rw [List.length_map]; omega)) (.cons (Has.t rfl) .nil)) rfl ?_
    refine st (OK1.as (Has.t rfl)) rfl ?_
    refine nl ?_
    refine At.thn (hK10 _ _ ?_); clear hK10
    refine Tri.ret ?_
    refine rt1 (.inl rfl) Try.results97 rfl (.tmp (Has.t' rfl ?_) .nil)
    all_goals (exact isP_eq (by rw [vals_nz, hF]; unfold both; rw [vals_len, vals_len]))
set_option maxHeartbeats 4000000 in
theorem zpoly_Sub {xs ys : List (Bool × List Nat)} {K : Nat} (hx : Bd (vals xs) K) (hy : Bd (vals ys) K) (hK : K ≤ 3000000000) (hn : xs.length ≤ 1000000) (hm : ys.length ≤ 1000000) : Ctr Try.prog 105 [SlK 2 zc xs, SlK 2 zc ys] (isP (psub (vals xs) (vals ys))) := by
  refine Ctr.intro Try.func105 rfl (by kernel_rfl) Try.ntmps105 rfl fun w0 F0 => ?_
  refine Tri.cv (Cv.wk (.cons (t := 0) (Has.t rfl) (.cons (t := 1) (Has.t rfl) .nil))) ?_
  refine Tri.fact (Has.lenLt (Has.t (t := 0) rfl)) fun lt0 => ?_
  refine Tri.fact (Has.lenLt (Has.t (t := 1) rfl)) fun lt1 => ?_
  refine Tri.seq fun K1 hK1 => ?_
  refine Tri.region ?_
  refine st (OK1.as (Has.cWK (k := 2) (fk := zc))) rfl ?_
  refine nl ?_
  refine At.thn (hK1 _ _ ?_); clear hK1
  refine Tri.seq fun K2 hK2 => ?_
  refine Tri.region ?_
  refine st (OK1.mv (Has.t rfl)) rfl ?_
  refine st (OK1.mv (Has.t rfl)) rfl ?_
  refine st (OK1.call (zpoly_both (op := fun x y => x - y) (L := K + 1) hx hy (fun i => by have := nz_sub (cf (vals xs) i) (cf (vals ys) i); have := hx i; have := hy i; show (List.length (words (cf (vals xs) i - cf (vals ys) i).natAbs)) ≤ K + 1; omega) (by omega) (by rfl) hn hm) (.cons (Has.t rfl) (.cons (Has.t rfl) (.cons (Has.fn (fun i => zint_Sub (by have := i.2.1; omega) (by have := i.2.2; omega))) .nil)))) rfl ?_
  refine st (OK1.as (Has.t rfl)) rfl ?_
  refine nl ?_
  refine At.thn (hK2 _ _ ?_); clear hK2
  refine Tri.cv (Cv.wk (.cons (t := 4) (Has.t rfl) .nil)) ?_
  refine Tri.ret ?_
  refine rt1 (.inl rfl) Try.results105 rfl (.tmp (Has.t' rfl ?_) .nil)
  all_goals (rfl)
set_option maxHeartbeats 4000000 in
theorem zpoly_Same {xs ys : List (Bool × List Nat)} {K : Nat} (hx : Bd (vals xs) K) (hy : Bd (vals ys) K) (hK : K ≤ 3000000000) (hn : xs.length ≤ 1000000) (hm : ys.length ≤ 1000000) : Ctr Try.prog 50 [SlK 2 zc xs, SlK 2 zc ys] (isB (decide (psub (vals xs) (vals ys) = []))) := by
  refine Ctr.intro Try.func50 rfl (by kernel_rfl) Try.ntmps50 rfl fun w0 F0 => ?_
  refine Tri.cv (Cv.wk (.cons (t := 0) (Has.t rfl) (.cons (t := 1) (Has.t rfl) .nil))) ?_
  refine Tri.fact (Has.lenLt (Has.t (t := 0) rfl)) fun lt0 => ?_
  refine Tri.fact (Has.lenLt (Has.t (t := 1) rfl)) fun lt1 => ?_
  refine Tri.seq fun K1 hK1 => ?_
  refine Tri.region ?_
  refine st (OK1.as (Has.cB false)) rfl ?_
  refine nl ?_
  refine At.thn (hK1 _ _ ?_); clear hK1
  refine Tri.seq fun K2 hK2 => ?_
  refine Tri.region ?_
  refine st (OK1.mv (Has.t rfl)) rfl ?_
  refine st (OK1.mv (Has.t rfl)) rfl ?_
  refine st (OK1.call (zpoly_Sub hx hy hK hn hm) (.cons (Has.t rfl) (.cons (Has.t rfl) .nil))) rfl ?_
  refine st (OK1.len sl34 (Has.t rfl)) rfl ?_
  refine st (OK1.eqI (Has.t rfl) (Has.cI 0 rfl)) rfl ?_
  refine st (OK1.as (Has.t rfl)) rfl ?_
  refine nl ?_
  refine At.thn (hK2 _ _ ?_); clear hK2
  refine Tri.cv (Cv.wk (.cons (t := 4) (Has.t rfl) .nil)) ?_
  refine Tri.ret ?_
  refine rt1 (.inl rfl) Try.results50 rfl (.tmp (Has.t' rfl ?_) .nil)
  all_goals (exact isB_eq (decide_eq_decide.2 (by rw [List.length_map]; exact ⟨fun h => List.eq_nil_of_length_eq_zero (by omega), fun h => by rw [h]; rfl⟩)))
end Go.Proofs.Ytgkbekcpmbjbdaa
/- Contracts: contents, values. -/
namespace Go.Proofs.Ytgkbekcpmbjbdaa
open Go.En Go.RowKit
set_option linter.unusedVariables false
set_option maxRecDepth 10000
open Go.Nt
open Go.Pz
set_option maxHeartbeats 4000000 in
theorem zpoly_Of {xs : List Int} (hn : xs.length ≤ 400000) : Ctr Try.prog 51 [SlM isI xs] (isP (pnorm xs)) := by
  refine Ctr.intro Try.func51 rfl (by kernel_rfl) Try.ntmps51 rfl fun w0 F0 => ?_
  refine Tri.cv (Cv.wk (.cons (t := 0) (Has.t rfl) .nil)) ?_
  refine Tri.fact (Has.lenLt (Has.t (t := 0) rfl)) fun lt0 => ?_
  refine Tri.fact (Has.okI (Has.t (t := 0) rfl)) fun hr => ?_
  refine Tri.seq fun K1 hK1 => ?_
  refine Tri.region ?_
  refine st (OK1.as (Has.cWK (k := 2) (fk := zc))) rfl ?_
  refine nl ?_
  refine At.thn (hK1 _ _ ?_); clear hK1
  refine Tri.seq fun K2 hK2 => ?_
  refine Tri.region ?_
  refine Ops.cv (Cv.grow0K (α := Bool × List Nat) zc) ?_
  refine st (OK1.as (Has.cGr (α := Bool × List Nat))) rfl ?_
  refine nl ?_
  refine At.thn (hK2 _ _ ?_); clear hK2
  refine Tri.seq fun K3 hK3 => ?_
  refine Tri.seq fun K4 hK4 => ?_
  refine Tri.region ?_
  refine st (OK1.mv (Has.t rfl)) rfl ?_
  refine st (OK1.len sl117 (Has.t rfl)) rfl ?_
  refine st (OK1.mv (Has.cI 0 rfl)) rfl ?_
  refine nl ?_
  refine At.thn (hK4 _ _ ?_); clear hK4
  refine Tri.block ?_
  refine Tri.loopF [2, 6, 7] (fun (z : { z : Nat × Gr (Bool × List Nat) // z.1 ≤ xs.length }) => match z with | ⟨(i, g), hI⟩ => [(8, isI (i : Int)), (3, isGr g ((xs.take i).map nz).length)]) (fun M => fun (z : { z : Nat × Gr (Bool × List Nat) // z.1 ≤ xs.length }) => match z with | ⟨(i, g), hI⟩ => [grMK zc g ((xs.take i).map nz)]) (fun (z : { z : Nat × Gr (Bool × List Nat) // z.1 ≤ xs.length }) => match z with | ⟨(i, g), hI⟩ => xs.length - i) (⟨(0, Gr.nil), Nat.zero_le _⟩) (Cv.mem (.cons (t := 8) (Has.t' rfl ?_) (.cons (t := 3) (Has.t' rfl ?_) (.cons (t := 2) (Has.t rfl) (.cons (t := 6) (Has.t rfl) (.cons (t := 7) (Has.t rfl) .nil))))) ?_) ?_
  · rfl
  · rfl
  · rfl
  rintro ⟨⟨i, g⟩, hI⟩ K5 hK5
  refine Tri.cv (Cv.wk (.cons (t := 8) (Has.t rfl) (.cons (t := 3) (Has.t rfl) (.cons (t := 2) (Has.t rfl) (.cons (t := 6) (Has.t rfl) (.cons (t := 7) (Has.t rfl) .nil)))))) ?_
  refine Tri.memEq (M' := [grMK zc g ((xs.take i).map nz)]) rfl ?_
  simp only [] at hI
  have hyl : ((xs.take i).map nz).length = i := by rw [List.length_map, List.length_take]; omega
  refine Tri.seq fun K6 hK6 => ?_
  refine Tri.region ?_
  refine st (OK1.ltI (Has.t rfl) (Has.t rfl)) rfl ?_
  refine nl ?_
  refine At.thn (hK6 _ _ ?_); clear hK6
  refine Tri.seq fun K7 hK7 => ?_
  refine Tri.cond (Has.t rfl) (fun hc1 => ?_) (fun hc1 => ?_)
  · have hc1 := BP.t hc1
    refine Tri.skip ?_
    refine At.thn (hK7 _ _ ?_); clear hK7
    refine Tri.seq fun K8 hK8 => ?_
    refine Tri.block ?_
    refine Tri.seq fun K9 hK9 => ?_
    refine Tri.region ?_
    refine st (OK1.ixP sl117 ty2 (Has.t rfl) (Has.t rfl) ⟨by omega, by omega⟩ (getD_some (d := 0) (by first | omega | (simp only [Int.toNat_natCast, List.length_set]; omega)))) rfl ?_
    refine st (OK1.loadP1 (Has.t rfl) ty2) rfl ?_
    refine st (OK1.as (Has.t rfl)) rfl ?_
    refine nl ?_
    refine At.thn (hK9 _ _ ?_); clear hK9
    refine Tri.region ?_
    refine st (OK1.mv (Has.t rfl)) rfl ?_
    refine st (OK1.mv (Has.t rfl)) rfl ?_
    refine st (OK1.eq (OK1.call (zint_Of) (.cons (Has.t rfl) .nil)) ((show isZ _ = Flat (zc (nz (cf xs i))) from rfl))) rfl ?_
    refine st (OK1.buildS [isB false, SlM isU []] sl34 ty44 zero44 (fun _ _ => ⟨rfl, nilM _ _, trivial⟩) rfl rfl (.cons (Has.t rfl) rfl rfl rfl .nil) rfl (S := SlK 2 zc [nz (cf xs i)]) rfl) rfl ?_
    refine Ops.appendGK (fk := zc) (u := (false, [])) zc_len (by decide) (fun _ => inferInstance) sl34 ty44 zero44 (fun _ _ => ⟨rfl, nilM _ _, trivial⟩) by44 (Has.t rfl) (i := 0) rfl (Has.t rfl) (by rw [hyl]; show i + 1 ≤ _; omega) (by simp) rfl fun gr1 => ?_
    refine Ops.memEq (M' := [grMK _ _ _]) rfl ?_
    refine st (OK1.as (Has.t rfl)) rfl ?_
    refine nl ?_
    refine At.bln ?_
    refine At.thn (hK8 _ _ ?_); clear hK8
    refine Tri.region ?_
    refine st (OK1.addI (Has.t rfl) (Has.cI 1 rfl) (by first | omega | assumption) (by first | omega | assumption)) rfl ?_
    refine st (OK1.mv (Has.t rfl)) rfl ?_
    refine nl ?_
    refine At.thn ?_
    refine hK5 (⟨(i + 1, gr1), by show i + 1 ≤ _; omega⟩) _ _ ?_ (Cv.mem (.cons (t := 8) (Has.t' rfl ?_) (.cons (t := 3) (Has.t' rfl ?_) (.cons (t := 2) (Has.t rfl) (.cons (t := 6) (Has.t rfl) (.cons (t := 7) (Has.t rfl) .nil))))) ?_)
    · show xs.length - (i + 1) < xs.length - i; omega
    · exact isI_eq (by omega)
    · exact isGr_eq (by rw [← take_map_succ _ _ (by omega), List.length_append])
    · exact grMK_eq (take_map_succ _ _ (by omega))
  · have hc1 := BP.f hc1
    refine Tri.exit ?_
    refine At.the ?_
    refine At.the ?_
    refine At.blh ?_
    refine At.thn (hK3 _ _ ?_); clear hK3
    refine Tri.seq fun K10 hK10 => ?_
    refine Tri.cv (Cv.freezeGK (t := 3) (i := 0) (ys := (xs.take i).map nz) zc_len rfl rfl rfl) ?_
    refine Tri.memEq (M' := []) rfl ?_
    refine Tri.cv (Cv.wk (.cons (t := 2) (Has.t rfl) (.cons (t := 6) (Has.t rfl) (.cons (t := 7) (Has.t rfl) (.cons (t := 8) (Has.t rfl) (.cons (t := 3) (Has.t rfl) (.cons (t := 9) (Has.t rfl) .nil))))))) ?_
    refine Tri.region ?_
    refine st (OK1.mv (Has.t rfl)) rfl ?_
    refine st (OK1.call (zpoly_Norm (K := 1) (by rw [vals_nz, show xs.take i = xs from List.take_of_length_le (by omega)]; exact bd64 hr) (by omega) (by rw [List.length_map, List.length_take]; omega)) (.cons (Has.t rfl) .nil)) rfl ?_
    refine st (OK1.as (Has.t rfl)) rfl ?_
    refine nl ?_
    refine At.thn (hK10 _ _ ?_); clear hK10
    refine Tri.cv (Cv.wk (.cons (t := 2) (Has.t rfl) .nil)) ?_
    refine Tri.ret ?_
    refine rt1 (.inl rfl) Try.results51 rfl (.tmp (Has.t' rfl ?_) .nil)
    all_goals (exact isP_eq (by rw [vals_nz, show xs.take i = xs from List.take_of_length_le (by omega)]))
end Go.Proofs.Ytgkbekcpmbjbdaa
/- Polynomials over the whole numbers: what the document's answers are. No program here, but the numbers' cells. -/
namespace Go.Pz
open Go.Nt Go.En
theorem normal_dead {z : Int} (h : (0 < (((List.length (words z.natAbs)) : Nat) : Int) ∧ dig z.natAbs ((List.length (words z.natAbs)) - 1) = 0) ∨ ((((List.length (words z.natAbs)) : Nat) : Int) = 0 ∧ z < 0)) : False := by
  rcases h with ⟨h1, h2⟩ | ⟨h1, h2⟩
  · refine dig_top (n := z.natAbs) (fun e => ?_) h2
    rw [e, words_zero] at h1; exact absurd h1 (by decide)
  · have := nw_lt z.natAbs
    rw [show (List.length (words z.natAbs)) = 0 by omega, Nat.pow_zero] at this
    omega
/-- lists of a size that is looked at -/
def fewB (xs : List (Bool × List Nat)) (n w : Int) : Bool := (xs.take 100).all (fun p => decide ((p.2.length : Int) ≤ w)) && decide ((xs.length : Int) ≤ n)
theorem fewB_no {xs : List (Bool × List Nat)} {n w : Int} {i : Nat} (hi : i < xs.length) (h1 : i < 100) (h : ¬ ((xs.getD i (false, [])).2.length : Int) ≤ w) : fewB xs n w = false := by
  unfold fewB
  have hm : xs.getD i (false, []) ∈ xs.take 100 := by
    rw [List.getD, List.getElem?_eq_getElem hi]
    exact List.mem_take_iff_getElem.2 ⟨i, by omega, rfl⟩
  have : (xs.take 100).all (fun p => decide ((p.2.length : Int) ≤ w)) = false := by
    rw [List.all_eq_false]
    exact ⟨_, hm, by rw [decide_eq_true_eq]; exact h⟩
  rw [this]; rfl
theorem fewB_yes {xs : List (Bool × List Nat)} {n w : Int} {i : Nat} (hi : xs.length ≤ i ∨ 100 ≤ i) (h : ∀ j, j < i → ((xs.getD j (false, [])).2.length : Int) ≤ w) : fewB xs n w = decide ((xs.length : Int) ≤ n) := by
  unfold fewB
  have : (xs.take 100).all (fun p => decide ((p.2.length : Int) ≤ w)) = true := by
    rw [List.all_eq_true]
    intro p hp
    obtain ⟨j, hj, rfl⟩ := List.mem_take_iff_getElem.1 hp
    have := h j (by omega)
    rw [List.getD, List.getElem?_eq_getElem (by omega)] at this
    exact decide_eq_true this
  rw [this]; rfl
theorem fewB_bd {xs : List (Bool × List Nat)} {n w : Int} {N K : Nat} (ok : ∀ p ∈ xs, (∀ y ∈ p.2, y < 18446744073709551616) ∧ p.2.length ≤ 9223372036854775807) (h : fewB xs n w = true) (hn : n = (N : Int)) (hw : w = (K : Int)) (h1 : N ≤ 100) : xs.length ≤ N ∧ Bd (vals xs) K := by
  unfold fewB at h
  rw [Bool.and_eq_true, decide_eq_true_eq, List.all_eq_true] at h
  subst hn; subst hw
  refine ⟨by omega, fun i => ?_⟩
  rw [cf_vals, zv_nw]
  rcases Nat.lt_or_ge i xs.length with hi | hi
  · rw [List.getD, List.getElem?_eq_getElem hi]
    have h2 := h.1 xs[i] (List.mem_take_iff_getElem.2 ⟨i, by omega, rfl⟩)
    rw [decide_eq_true_eq] at h2
    exact Nat.le_trans (nw_val (ok _ (List.getElem_mem hi)).1) (by show xs[i].2.length ≤ K; omega)
  · rw [List.getD, List.getElem?_eq_none (by omega)]
    show (List.length (words (val []))) ≤ K
    rw [show val [] = 0 from rfl, words_zero]; exact Nat.zero_le _
end Go.Pz
/- Contracts: the document's answers on polynomials. -/
namespace Go.Proofs.Ytgkbekcpmbjbdaa
open Go.En Go.RowKit
set_option linter.unusedVariables false
set_option maxRecDepth 10000
open Go.Nt
open Go.Pz
set_option maxHeartbeats 4000000 in
theorem ref10_Few {xs : List (Bool × List Nat)} {n w : Int} : Ctr Try.prog 16 [SlK 2 zc xs, isI n, isI w] (isB (fewB xs n w)) := by
  refine Ctr.intro Try.func16 rfl (by kernel_rfl) Try.ntmps16 rfl fun w0 F0 => ?_
  refine Tri.cv (Cv.wk (.cons (t := 0) (Has.t rfl) (.cons (t := 1) (Has.t rfl) (.cons (t := 2) (Has.t rfl) .nil)))) ?_
  refine Tri.fact (Has.lenLt (Has.t (t := 0) rfl)) fun lt0 => ?_
  refine Tri.fact (Has.rngI (Has.t (t := 1) rfl)) fun lt1 => ?_
  refine Tri.fact (Has.rngI (Has.t (t := 2) rfl)) fun lt2 => ?_
  refine Tri.seq fun K1 hK1 => ?_
  refine Tri.region ?_
  refine st (OK1.as (Has.cB false)) rfl ?_
  refine nl ?_
  refine At.thn (hK1 _ _ ?_); clear hK1
  refine Tri.seq fun K2 hK2 => ?_
  refine Tri.seq fun K3 hK3 => ?_
  refine Tri.region ?_
  refine st (OK1.as (Has.cI 0 rfl)) rfl ?_
  refine nl ?_
  refine At.thn (hK3 _ _ ?_); clear hK3
  refine Tri.block ?_
  refine Tri.loopF [0, 1, 2] (fun (z : { i : Nat // i ≤ xs.length ∧ i ≤ 100 ∧ ∀ j, j < i → ((xs.getD j (false, [])).2.length : Int) ≤ w }) => match z with | ⟨i, hi⟩ => [(7, isI (i : Int))]) (fun M => fun (z : { i : Nat // i ≤ xs.length ∧ i ≤ 100 ∧ ∀ j, j < i → ((xs.getD j (false, [])).2.length : Int) ≤ w }) => match z with | ⟨i, hi⟩ => []) (fun (z : { i : Nat // i ≤ xs.length ∧ i ≤ 100 ∧ ∀ j, j < i → ((xs.getD j (false, [])).2.length : Int) ≤ w }) => match z with | ⟨i, hi⟩ => xs.length - i) (⟨0, Nat.zero_le _, by omega, fun j h => absurd h (Nat.not_lt_zero _)⟩) (Cv.mem (.cons (t := 7) (Has.t' rfl ?_) (.cons (t := 0) (Has.t rfl) (.cons (t := 1) (Has.t rfl) (.cons (t := 2) (Has.t rfl) .nil)))) ?_) ?_
  · rfl
  · rfl
  rintro ⟨i, hi, h1, hj⟩ K4 hK4
  refine Tri.cv (Cv.wk (.cons (t := 7) (Has.t rfl) (.cons (t := 0) (Has.t rfl) (.cons (t := 1) (Has.t rfl) (.cons (t := 2) (Has.t rfl) .nil))))) ?_
  refine Tri.memEq (M' := []) rfl ?_
  refine Tri.seq fun K5 hK5 => ?_
  refine Tri.seq fun K6 hK6 => ?_
  refine Tri.region ?_
  refine st (OK1.mv (Has.t rfl)) rfl ?_
  refine st (OK1.mv (Has.t rfl)) rfl ?_
  refine st (OK1.len sl22 (Has.t rfl)) rfl ?_
  refine st (OK1.ltI (Has.t rfl) (Has.t rfl)) rfl ?_
  refine st (OK1.mv (Has.t rfl)) rfl ?_
  refine stT rfl rfl (fun hg => have hg' := BP.t hg; OK1.mv (Has.t rfl)) rfl ?_
  refine stT rfl rfl (fun hg => have hg' := BP.t hg; OK1.ltI (Has.g rfl hg) (Has.cI 100 rfl)) rfl ?_
  refine st (OK1.pickAnd (Has.t rfl) (fun h => Has.g rfl h)) rfl ?_
  refine nl ?_
  refine At.thn (hK6 _ _ ?_); clear hK6
  refine Tri.cond (Has.t rfl) (fun hc1 => ?_) (fun hc1 => ?_)
  · have hc1 := BP.t hc1
    refine Tri.skip ?_
    refine At.thn (hK5 _ _ ?_); clear hK5
    refine Tri.seq fun K7 hK7 => ?_
    refine Tri.block ?_
    refine Tri.seq fun K8 hK8 => ?_
    refine Tri.region ?_
    refine st (OK1.mv (Has.t rfl)) rfl ?_
    refine st (OK1.mv (Has.t rfl)) rfl ?_
    refine st (OK1.ixK sl22 ty44 (Has.t rfl) (Has.t rfl) zc_len ⟨by omega, by omega⟩ (getD_some (d := (false, [])) (by first | omega | (simp only [Int.toNat_natCast, List.length_set]; omega)))) rfl ?_
    refine st (OK1.fieldAddrP (Has.t rfl) fld44_1 ty42 (Ss' := [_]) rfl) rfl ?_
    refine st (OK1.loadP1 (Has.t rfl) ty42) rfl ?_
    refine st (OK1.len sl42 (Has.t rfl)) rfl ?_
    refine st (OK1.mv (Has.t rfl)) rfl ?_
    refine st (OK1.gtI (Has.t rfl) (Has.t rfl)) rfl ?_
    refine nl ?_
    refine At.thn (hK8 _ _ ?_); clear hK8
    refine Tri.cond (Has.t rfl) (fun hc2 => ?_) (fun hc2 => ?_)
    · have hc2 := BP.t hc2
      have hNo : ¬ ((xs.getD i (false, [])).2.length : Int) ≤ w := (by simp only [Int.toNat_natCast] at hc2; omega)
      refine Tri.seq fun K9 hK9 => ?_
      refine Tri.region ?_
      refine st (OK1.as (Has.cB false)) rfl ?_
      refine nl ?_
      refine At.thn (hK9 _ _ ?_); clear hK9
      refine Tri.ret ?_
      refine At.blr ?_
      refine At.thr ?_
      refine At.thr ?_
      refine At.blr ?_
      refine At.thr ?_
      refine rt1 (.inl rfl) Try.results16 rfl (.tmp (Has.t' rfl ?_) .nil)
      all_goals (exact isB_eq (fewB_no (by omega) (by omega) hNo).symm)
    · have hc2 := BP.f hc2
      have hLe : ((xs.getD i (false, [])).2.length : Int) ≤ w := (by simp only [Int.toNat_natCast] at hc2; omega)
      refine Tri.skip ?_
      refine At.bln ?_
      refine At.thn (hK7 _ _ ?_); clear hK7
      refine Tri.region ?_
      refine st (OK1.mv (Has.t rfl)) rfl ?_
      refine st (OK1.addI (Has.t rfl) (Has.cI 1 rfl) (by first | omega | assumption) (by first | omega | assumption)) rfl ?_
      refine st (OK1.as (Has.t rfl)) rfl ?_
      refine nl ?_
      refine At.thn ?_
      refine hK4 (⟨i + 1, by omega, by omega, fun j h => by rcases Nat.lt_or_ge j i with h2 | h2; exact hj j h2; rw [show j = i by omega]; exact hLe⟩) _ _ ?_ (Cv.mem (.cons (t := 7) (Has.t' rfl ?_) (.cons (t := 0) (Has.t rfl) (.cons (t := 1) (Has.t rfl) (.cons (t := 2) (Has.t rfl) .nil)))) ?_)
      · show xs.length - (i + 1) < xs.length - i; omega
      · exact isI_eq (by omega)
      · rfl
  · have hc1 := BP.f hc1
    refine Tri.exit ?_
    refine At.the ?_
    refine At.the ?_
    refine At.blh ?_
    refine At.thn (hK2 _ _ ?_); clear hK2
    refine Tri.cv (Cv.wk (.cons (t := 0) (Has.t rfl) (.cons (t := 1) (Has.t rfl) .nil))) ?_
    refine Tri.seq fun K10 hK10 => ?_
    refine Tri.region ?_
    refine st (OK1.mv (Has.t rfl)) rfl ?_
    refine st (OK1.len sl22 (Has.t rfl)) rfl ?_
    refine st (OK1.mv (Has.t rfl)) rfl ?_
    refine st (OK1.leI (Has.t rfl) (Has.t rfl)) rfl ?_
    refine st (OK1.as (Has.t rfl)) rfl ?_
    refine nl ?_
    refine At.thn (hK10 _ _ ?_); clear hK10
    refine Tri.cv (Cv.wk (.cons (t := 6) (Has.t rfl) .nil)) ?_
    refine Tri.ret ?_
    refine rt1 (.inl rfl) Try.results16 rfl (.tmp (Has.t' rfl ?_) .nil)
    all_goals (exact isB_eq (fewB_yes (by omega) hj).symm)
end Go.Proofs.Ytgkbekcpmbjbdaa
/- Contracts: the document's matrices. -/
namespace Go.Proofs.Ytgkbekcpmbjbdaa
open Go.En Go.RowKit
set_option linter.unusedVariables false
set_option maxRecDepth 10000
open Go.Nt
open Go.Pz
open Go.Mz
open Go.Dt
set_option maxHeartbeats 4000000 in
theorem ref11_Formed {r c : Int} {xs : List (Bool × List Nat)} : Ctr Try.prog 58 [isM r c xs] (isB (formB r c xs.length)) := by
  refine Ctr.intro Try.func58 rfl (by kernel_rfl) Try.ntmps58 rfl fun w0 F0 => ?_
  refine Tri.cv (Cv.wk (.cons (t := 0) (Has.t rfl) .nil)) ?_
  refine Tri.seq fun K1 hK1 => ?_
  refine Tri.region ?_
  refine Ops.box (Has.t rfl) rfl fun b1 => ?_
  refine st (OK1.as (Has.cB false)) rfl ?_
  refine nl ?_
  refine At.thn (hK1 _ _ ?_); clear hK1
  refine Tri.seq fun K2 hK2 => ?_
  refine Tri.region ?_
  refine st (OK1.fieldAddr (Has.t rfl) fld24_0 ty3) rfl ?_
  refine st (OK1.load1 (Has.t rfl) (i := 0) rfl ty3 rfl) rfl ?_
  refine st (OK1.geI (Has.t rfl) (Has.cI 0 rfl)) rfl ?_
  refine st (OK1.mv (Has.t rfl)) rfl ?_
  refine stT rfl rfl (fun hg => have hg' := BP.t hg; OK1.fieldAddr (Has.t rfl) fld24_0 ty3) rfl ?_
  refine stT rfl rfl (fun hg => have hg' := BP.t hg; OK1.load1 (Has.g rfl hg) (i := 0) rfl ty3 rfl) rfl ?_
  refine stT rfl rfl (fun hg => have hg' := BP.t hg; OK1.leI (Has.g rfl hg) (Has.cI 64 rfl)) rfl ?_
  refine st (OK1.pickAnd (Has.t rfl) (fun h => Has.g rfl h)) rfl ?_
  refine st (OK1.mv (Has.t rfl)) rfl ?_
  refine stT rfl rfl (fun hg => have hg' := BP.t hg; OK1.fieldAddr (Has.t rfl) fld24_1 ty3) rfl ?_
  refine stT rfl rfl (fun hg => have hg' := BP.t hg; OK1.load1 (Has.g rfl hg) (i := 0) rfl ty3 rfl) rfl ?_
  refine stT rfl rfl (fun hg => have hg' := BP.t hg; OK1.geI (Has.g rfl hg) (Has.cI 0 rfl)) rfl ?_
  refine st (OK1.pickAnd (Has.t rfl) (fun h => Has.g rfl h)) rfl ?_
  refine st (OK1.mv (Has.t rfl)) rfl ?_
  refine stT rfl rfl (fun hg => have hg' := BP.t hg; OK1.fieldAddr (Has.t rfl) fld24_1 ty3) rfl ?_
  refine stT rfl rfl (fun hg => have hg' := BP.t hg; OK1.load1 (Has.g rfl hg) (i := 0) rfl ty3 rfl) rfl ?_
  refine stT rfl rfl (fun hg => have hg' := BP.t hg; OK1.leI (Has.g rfl hg) (Has.cI 64 rfl)) rfl ?_
  refine st (OK1.pickAnd (Has.t rfl) (fun h => Has.g rfl h)) rfl ?_
  refine st (OK1.mv (Has.t rfl)) rfl ?_
  refine stT rfl rfl (fun hg => have hg' := BP.t hg; OK1.fieldAddr (Has.t rfl) fld24_2 ty22) rfl ?_
  refine stT rfl rfl (fun hg => have hg' := BP.t hg; OK1.load1 (Has.g rfl hg) (i := 0) rfl ty22 rfl) rfl ?_
  refine stT rfl rfl (fun hg => have hg' := BP.t hg; OK1.len sl22 (Has.g rfl hg)) rfl ?_
  refine stT rfl rfl (fun hg => have hg' := BP.t hg; OK1.fieldAddr (Has.t rfl) fld24_0 ty3) rfl ?_
  refine stT rfl rfl (fun hg => have hg' := BP.t hg; OK1.load1 (Has.g rfl hg) (i := 0) rfl ty3 rfl) rfl ?_
  refine stT rfl rfl (fun hg => have hg' := BP.t hg; OK1.fieldAddr (Has.t rfl) fld24_1 ty3) rfl ?_
  refine stT rfl rfl (fun hg => have hg' := BP.t hg; OK1.load1 (Has.g rfl hg) (i := 0) rfl ty3 rfl) rfl ?_
  refine stT rfl rfl (fun hg => have hg' := BP.t hg; OK1.mulI (Has.g rfl hg) (Has.g rfl hg) (by have := mul_bnd ⟨⟨hg'.1.1.1, hg'.1.1.2⟩, hg'.1.2, hg'.2⟩; omega) (by have := mul_bnd ⟨⟨hg'.1.1.1, hg'.1.1.2⟩, hg'.1.2, hg'.2⟩; omega)) rfl ?_
  refine stT rfl rfl (fun hg => have hg' := BP.t hg; OK1.eqI (Has.g rfl hg) (Has.g rfl hg)) rfl ?_
  refine st (OK1.pickAnd (Has.t rfl) (fun h => Has.g rfl h)) rfl ?_
  refine st (OK1.as (Has.t rfl)) rfl ?_
  refine nl ?_
  refine At.thn (hK2 _ _ ?_); clear hK2
  refine Tri.cv (Cv.wk (.cons (t := 2) (Has.t rfl) .nil)) ?_
  refine Tri.ret ?_
  refine rt1 (.inl rfl) Try.results58 rfl (.tmp (Has.t' rfl ?_) .nil)
  all_goals (exact isB_eq (by unfold formB; simp only [Bool.and_assoc]))
set_option maxHeartbeats 4000000 in
theorem ref11_At {r : Int} {C i k : Nat} {xs : List (Bool × List Nat)} (hx : xs.length ≤ 4096) (hl : i * C + k < xs.length) : Ctr Try.prog 26 [isM r (C : Int) xs, isI (i : Int), isI (k : Int)] (Flat (zc (xs.getD (i * C + k) (false, [])))) := by
  refine Ctr.intro Try.func26 rfl (by kernel_rfl) Try.ntmps26 rfl fun w0 F0 => ?_
  refine Tri.cv (Cv.wk (.cons (t := 0) (Has.t rfl) (.cons (t := 1) (Has.t rfl) (.cons (t := 2) (Has.t rfl) .nil)))) ?_
  refine Tri.fact (Has.rngI (Has.t (t := 1) rfl)) fun lt1 => ?_
  refine Tri.fact (Has.rngI (Has.t (t := 2) rfl)) fun lt2 => ?_
  have hcp : ((i : Int) * (C : Int)) = ((i * C : Nat) : Int) := (Int.natCast_mul i C).symm
  refine Tri.seq fun K1 hK1 => ?_
  refine Tri.region ?_
  refine Ops.box (Has.t rfl) rfl fun b1 => ?_
  refine Ops.alloc [isB false, SlM isU []] zero44 (fun _ _ => ⟨rfl, nilM _ _, trivial⟩) rfl fun b2 => ?_
  refine nl ?_
  refine At.thn (hK1 _ _ ?_); clear hK1
  refine Tri.seq fun K2 hK2 => ?_
  refine Tri.region ?_
  refine st (OK1.fieldAddr (Has.t rfl) fld24_2 ty22) rfl ?_
  refine st (OK1.load1 (Has.t rfl) (i := 1) rfl ty22 rfl) rfl ?_
  refine st (OK1.mv (Has.t rfl)) rfl ?_
  refine st (OK1.fieldAddr (Has.t rfl) fld24_1 ty3) rfl ?_
  refine st (OK1.load1 (Has.t rfl) (i := 1) rfl ty3 rfl) rfl ?_
  refine st (OK1.eq (OK1.mulI (Has.t rfl) (Has.t rfl) (by first | omega | (rw [hcp]; omega)) (by first | omega | (rw [hcp]; omega))) ((show isI _ = isI ((i * C : Nat) : Int) from isI_eq hcp))) rfl ?_
  refine st (OK1.mv (Has.t rfl)) rfl ?_
  refine st (OK1.eq (OK1.addI (Has.t rfl) (Has.t rfl) (by first | omega | (rw [hcp]; omega)) (by first | omega | (rw [hcp]; omega))) ((show isI _ = isI ((i * C + k : Nat) : Int) from isI_eq (by omega)))) rfl ?_
  refine st (OK1.ixK sl22 ty44 (Has.t rfl) (Has.t rfl) zc_len ⟨by omega, by omega⟩ (getD_some (d := (false, [])) (by first | omega | (simp only [Int.toNat_natCast, List.length_set]; omega)))) rfl ?_
  refine st (OK1.loadP (Has.t rfl) ty44 rfl (Ss' := [_, _]) rfl) rfl ?_
  refine Ops.store (Has.t rfl) (Has.t rfl) (i := 0) rfl ty44 rfl rfl (Ss' := [_, _]) rfl (M' := [(some _, cellM [_, _]), _]) rfl ?_
  refine nl ?_
  refine At.thn (hK2 _ _ ?_); clear hK2
  refine Tri.cv (Cv.wk (.cons (t := 6) (Has.t rfl) .nil)) ?_
  refine Tri.ret ?_
  refine rt1 (.inl rfl) Try.results26 rfl (.cell rfl (i := 0) rfl ty44 rfl ?_ .nil)
  all_goals (rfl)
set_option maxHeartbeats 4000000 in
theorem ref11_Few {r c n w : Int} {xs : List (Bool × List Nat)} : Ctr Try.prog 10 [isM r c xs, isI n, isI w] (isB (decide (r ≤ n) && decide (c ≤ n) && fewB xs 100 w)) := by
  refine Ctr.intro Try.func10 rfl (by kernel_rfl) Try.ntmps10 rfl fun w0 F0 => ?_
  refine Tri.cv (Cv.wk (.cons (t := 0) (Has.t rfl) (.cons (t := 1) (Has.t rfl) (.cons (t := 2) (Has.t rfl) .nil)))) ?_
  refine Tri.fact (Has.rngI (Has.t (t := 1) rfl)) fun lt1 => ?_
  refine Tri.fact (Has.rngI (Has.t (t := 2) rfl)) fun lt2 => ?_
  refine Tri.seq fun K1 hK1 => ?_
  refine Tri.region ?_
  refine Ops.box (Has.t rfl) rfl fun b1 => ?_
  refine st (OK1.as (Has.cB false)) rfl ?_
  refine nl ?_
  refine At.thn (hK1 _ _ ?_); clear hK1
  refine Tri.seq fun K2 hK2 => ?_
  refine Tri.region ?_
  refine st (OK1.fieldAddr (Has.t rfl) fld24_0 ty3) rfl ?_
  refine st (OK1.load1 (Has.t rfl) (i := 0) rfl ty3 rfl) rfl ?_
  refine st (OK1.mv (Has.t rfl)) rfl ?_
  refine st (OK1.leI (Has.t rfl) (Has.t rfl)) rfl ?_
  refine st (OK1.mv (Has.t rfl)) rfl ?_
  refine stT rfl rfl (fun hg => have hg' := BP.t hg; OK1.fieldAddr (Has.t rfl) fld24_1 ty3) rfl ?_
  refine stT rfl rfl (fun hg => have hg' := BP.t hg; OK1.load1 (Has.g rfl hg) (i := 0) rfl ty3 rfl) rfl ?_
  refine stT rfl rfl (fun hg => have hg' := BP.t hg; OK1.mv (Has.t rfl)) rfl ?_
  refine stT rfl rfl (fun hg => have hg' := BP.t hg; OK1.leI (Has.g rfl hg) (Has.g rfl hg)) rfl ?_
  refine st (OK1.pickAnd (Has.t rfl) (fun h => Has.g rfl h)) rfl ?_
  refine st (OK1.mv (Has.t rfl)) rfl ?_
  refine stT rfl rfl (fun hg => have hg' := BP.t hg; OK1.fieldAddr (Has.t rfl) fld24_2 ty22) rfl ?_
  refine stT rfl rfl (fun hg => have hg' := BP.t hg; OK1.load1 (Has.g rfl hg) (i := 0) rfl ty22 rfl) rfl ?_
  refine stT rfl rfl (fun hg => have hg' := BP.t hg; OK1.mv (Has.t rfl)) rfl ?_
  refine stT rfl rfl (fun hg => have hg' := BP.t hg; OK1.call (ref10_Few) (.cons (Has.g rfl hg) (.cons (Has.cI 100 rfl) (.cons (Has.g rfl hg) .nil)))) rfl ?_
  refine st (OK1.pickAnd (Has.t rfl) (fun h => Has.g rfl h)) rfl ?_
  refine st (OK1.as (Has.t rfl)) rfl ?_
  refine nl ?_
  refine At.thn (hK2 _ _ ?_); clear hK2
  refine Tri.cv (Cv.wk (.cons (t := 6) (Has.t rfl) .nil)) ?_
  refine Tri.ret ?_
  refine rt1 (.inl rfl) Try.results10 rfl (.tmp (Has.t' rfl ?_) .nil)
  all_goals (rfl)
end Go.Proofs.Ytgkbekcpmbjbdaa
/- Contracts: the document's answers on matrices. -/
namespace Go.Proofs.Ytgkbekcpmbjbdaa
open Go.En Go.RowKit
set_option linter.unusedVariables false
set_option maxRecDepth 10000
open Go.Nt
open Go.Pz
open Go.Mz
open Go.Hn
open Go.Hp
open Go.Dt
set_option maxHeartbeats 4000000 in
theorem ref11_None {r c : Int} {xs : List (Bool × List Nat)} : Ctr Try.prog 13 [isM r c xs] (isB (decide (r = 0) && decide (c = 0) && decide ((xs.length : Int) = 0))) := by
  refine Ctr.intro Try.func13 rfl (by kernel_rfl) Try.ntmps13 rfl fun w0 F0 => ?_
  refine Tri.cv (Cv.wk (.cons (t := 0) (Has.t rfl) .nil)) ?_
  refine Tri.seq fun K1 hK1 => ?_
  refine Tri.region ?_
  refine Ops.box (Has.t rfl) rfl fun b1 => ?_
  refine st (OK1.as (Has.cB false)) rfl ?_
  refine nl ?_
  refine At.thn (hK1 _ _ ?_); clear hK1
  refine Tri.seq fun K2 hK2 => ?_
  refine Tri.region ?_
  refine st (OK1.fieldAddr (Has.t rfl) fld24_0 ty3) rfl ?_
  refine st (OK1.load1 (Has.t rfl) (i := 0) rfl ty3 rfl) rfl ?_
  refine st (OK1.eqI (Has.t rfl) (Has.cI 0 rfl)) rfl ?_
  refine st (OK1.mv (Has.t rfl)) rfl ?_
  refine stT rfl rfl (fun hg => have hg' := BP.t hg; OK1.fieldAddr (Has.t rfl) fld24_1 ty3) rfl ?_
  refine stT rfl rfl (fun hg => have hg' := BP.t hg; OK1.load1 (Has.g rfl hg) (i := 0) rfl ty3 rfl) rfl ?_
  refine stT rfl rfl (fun hg => have hg' := BP.t hg; OK1.eqI (Has.g rfl hg) (Has.cI 0 rfl)) rfl ?_
  refine st (OK1.pickAnd (Has.t rfl) (fun h => Has.g rfl h)) rfl ?_
  refine st (OK1.mv (Has.t rfl)) rfl ?_
  refine stT rfl rfl (fun hg => have hg' := BP.t hg; OK1.fieldAddr (Has.t rfl) fld24_2 ty22) rfl ?_
  refine stT rfl rfl (fun hg => have hg' := BP.t hg; OK1.load1 (Has.g rfl hg) (i := 0) rfl ty22 rfl) rfl ?_
  refine stT rfl rfl (fun hg => have hg' := BP.t hg; OK1.len sl22 (Has.g rfl hg)) rfl ?_
  refine stT rfl rfl (fun hg => have hg' := BP.t hg; OK1.eqI (Has.g rfl hg) (Has.cI 0 rfl)) rfl ?_
  refine st (OK1.pickAnd (Has.t rfl) (fun h => Has.g rfl h)) rfl ?_
  refine st (OK1.as (Has.t rfl)) rfl ?_
  refine nl ?_
  refine At.thn (hK2 _ _ ?_); clear hK2
  refine Tri.cv (Cv.wk (.cons (t := 2) (Has.t rfl) .nil)) ?_
  refine Tri.ret ?_
  refine rt1 (.inl rfl) Try.results13 rfl (.tmp (Has.t' rfl ?_) .nil)
  all_goals (rfl)
set_option maxHeartbeats 4000000 in
theorem ref11_Normal {r c : Int} {l : List Int} {K : Nat} (hx : Bd l K) (hK : K ≤ 400000000) (hm : l.length ≤ 1000000) : Ctr Try.prog 32 [isM r c (l.map nz)] (isB (formB r c l.length)) := by
  refine Ctr.intro Try.func32 rfl (by kernel_rfl) Try.ntmps32 rfl fun w0 F0 => ?_
  refine Tri.cv (Cv.wk (.cons (t := 0) (Has.t rfl) .nil)) ?_
  have hll : (l.map nz).length = l.length := List.length_map _
  refine Tri.seq fun K1 hK1 => ?_
  refine Tri.region ?_
  refine Ops.box (Has.t rfl) rfl fun b1 => ?_
  refine st (OK1.as (Has.cB false)) rfl ?_
  refine nl ?_
  refine At.thn (hK1 _ _ ?_); clear hK1
  refine Tri.seq fun K2 hK2 => ?_
  refine Tri.seq fun K3 hK3 => ?_
  refine Tri.region ?_
  refine st (OK1.as (Has.cI 0 rfl)) rfl ?_
  refine nl ?_
  refine At.thn (hK3 _ _ ?_); clear hK3
  refine Tri.block ?_
  refine Tri.loopF [1] (fun (z : { i : Nat // i ≤ l.length }) => match z with | ⟨i, hi⟩ => [(3, isI (i : Int))]) (fun M => fun (z : { i : Nat // i ≤ l.length }) => match z with | ⟨i, hi⟩ => M) (fun (z : { i : Nat // i ≤ l.length }) => match z with | ⟨i, hi⟩ => l.length - i) (⟨0, Nat.zero_le _⟩) (Cv.mem (.cons (t := 3) (Has.t' rfl ?_) (.cons (t := 1) (Has.t rfl) .nil)) ?_) ?_
  · rfl
  · rfl
  rintro ⟨i, hi⟩ K4 hK4
  refine Tri.cv (Cv.wk (.cons (t := 3) (Has.t rfl) (.cons (t := 1) (Has.t rfl) .nil))) ?_
  have hbi := hx i
  refine Tri.seq fun K5 hK5 => ?_
  refine Tri.seq fun K6 hK6 => ?_
  refine Tri.region ?_
  refine st (OK1.mv (Has.t rfl)) rfl ?_
  refine st (OK1.fieldAddr (Has.t rfl) fld24_2 ty22) rfl ?_
  refine st (OK1.load1 (Has.t rfl) (i := 0) rfl ty22 rfl) rfl ?_
  refine st (OK1.len sl22 (Has.t rfl)) rfl ?_
  refine st (OK1.ltI (Has.t rfl) (Has.t rfl)) rfl ?_
  refine nl ?_
  refine At.thn (hK6 _ _ ?_); clear hK6
  refine Tri.cond (Has.t rfl) (fun hc1 => ?_) (fun hc1 => ?_)
  · have hc1 := BP.t hc1
    refine Tri.skip ?_
    refine At.thn (hK5 _ _ ?_); clear hK5
    refine Tri.seq fun K7 hK7 => ?_
    refine Tri.block ?_
    refine Tri.seq fun K8 hK8 => ?_
    refine Tri.region ?_
    refine st (OK1.fieldAddr (Has.t rfl) fld24_2 ty22) rfl ?_
    refine st (OK1.load1 (Has.t rfl) (i := 0) rfl ty22 rfl) rfl ?_
    refine st (OK1.mv (Has.t rfl)) rfl ?_
    refine st (OK1.ixK sl22 ty44 (Has.t rfl) (Has.t rfl) zc_len ⟨by omega, by omega⟩ (getZ (i := i) (by omega))) rfl ?_
    refine st (OK1.fieldAddrP (Has.t rfl) fld44_1 ty42 (Ss' := [_]) rfl) rfl ?_
    refine st (OK1.eq (OK1.loadP1 (Has.t rfl) ty42) ((show isWords _ = isWords (words (cf l i).natAbs) from rfl))) rfl ?_
    refine st (OK1.len sl42 (Has.t rfl)) rfl ?_
    refine st (OK1.as (Has.t rfl)) rfl ?_
    refine nl ?_
    refine At.thn (hK8 _ _ ?_); clear hK8
    refine Tri.seq fun K9 hK9 => ?_
    refine Tri.region ?_
    refine st (OK1.mv (Has.t rfl)) rfl ?_
    refine st (OK1.gtI (Has.t rfl) (Has.cI 0 rfl)) rfl ?_
    refine st (OK1.mv (Has.t rfl)) rfl ?_
    refine stT rfl rfl (fun hg => have hg' := BP.t hg; OK1.fieldAddr (Has.t rfl) fld24_2 ty22) rfl ?_
    refine stT rfl rfl (fun hg => have hg' := BP.t hg; OK1.load1 (Has.g rfl hg) (i := 0) rfl ty22 rfl) rfl ?_
    refine stT rfl rfl (fun hg => have hg' := BP.t hg; OK1.mv (Has.t rfl)) rfl ?_
    refine stT rfl rfl (fun hg => have hg' := BP.t hg; OK1.ixK sl22 ty44 (Has.g rfl hg) (Has.g rfl hg) zc_len ⟨by omega, by omega⟩ (getZ (i := i) (by omega))) rfl ?_
    refine stT rfl rfl (fun hg => have hg' := BP.t hg; OK1.fieldAddrP (Has.g rfl hg) fld44_1 ty42 (Ss' := [_]) rfl) rfl ?_
    refine stT rfl rfl (fun hg => have hg' := BP.t hg; OK1.eq (OK1.loadP1 (Has.g rfl hg) ty42) ((show isWords _ = isWords (words (cf l i).natAbs) from rfl))) rfl ?_
    refine stT rfl rfl (fun hg => have hg' := BP.t hg; OK1.mv (Has.t rfl)) rfl ?_
    refine stT rfl rfl (fun hg => have hg' := BP.t hg; OK1.subI (Has.g rfl hg) (Has.cI 1 rfl) (by first | omega | assumption) (by first | omega | assumption)) rfl ?_
    refine stT rfl rfl (fun hg => have hg' := BP.t hg; OK1.ixP sl42 ty59 (Has.g rfl hg) (Has.g rfl hg) ⟨by omega, by omega⟩ (getD_some (d := 0) (by first | omega | (simp only [Int.toNat_natCast, List.length_set]; omega)))) rfl ?_
    refine stT rfl rfl (fun hg => have hg' := BP.t hg; OK1.eq (OK1.loadP1 (Has.g rfl hg) ty59) ((show isU _ = isU (dig (cf l i).natAbs ((List.length (words (cf l i).natAbs)) - 1)) from isU_eq (by rw [show (((List.length (words (cf l i).natAbs)) : Int) - 1).toNat = (List.length (words (cf l i).natAbs)) - 1 by omega, getD_words])))) rfl ?_
    refine stT rfl rfl (fun hg => have hg' := BP.t hg; OK1.eqU (Has.g rfl hg) (Has.cU 0 rfl)) rfl ?_
    refine st (OK1.pickAnd (Has.t rfl) (fun h => Has.g rfl h)) rfl ?_
    refine st (OK1.mv (Has.t rfl)) rfl ?_
    refine stF rfl rfl (fun hg => have hg' := BP.t hg; OK1.mv (Has.t rfl)) rfl ?_
    refine stF rfl rfl (fun hg => have hg' := BP.t hg; OK1.eqI (Has.g rfl hg) (Has.cI 0 rfl)) rfl ?_
    refine stF rfl rfl (fun hg => have hg' := BP.t hg; OK1.mv (Has.g rfl hg)) rfl ?_
    refine stGT rfl rfl (fun hg => have hg' := BP.t hg; OK1.fieldAddr (Has.t rfl) fld24_2 ty22) rfl ?_
    refine stGT rfl rfl (fun hg => have hg' := BP.t hg; OK1.load1 (Has.g rfl hg) (i := 0) rfl ty22 rfl) rfl ?_
    refine stGT rfl rfl (fun hg => have hg' := BP.t hg; OK1.mv (Has.t rfl)) rfl ?_
    refine stGT rfl rfl (fun hg => have hg' := BP.t hg; OK1.ixK sl22 ty44 (Has.g rfl hg) (Has.g rfl hg) zc_len ⟨by omega, by omega⟩ (getZ (i := i) (by omega))) rfl ?_
    refine stGT rfl rfl (fun hg => have hg' := BP.t hg; OK1.fieldAddrP (Has.g rfl hg) fld44_0 ty4 (Ss' := [_, _]) rfl) rfl ?_
    refine stGT rfl rfl (fun hg => have hg' := BP.t hg; OK1.eq (OK1.loadP1 (Has.g rfl hg) ty4) ((show isB _ = isB (decide (cf l i < 0)) from rfl))) rfl ?_
    refine stF rfl rfl (fun hg => have hg' := BP.t hg; OK1.pickAnd (Has.g rfl hg) (fun h => Has.g rfl (ga hg h))) rfl ?_
    refine st (OK1.pickOr (Has.t rfl) (fun h => Has.g rfl (ng h))) rfl ?_
    refine nl ?_
    refine At.thn (hK9 _ _ ?_); clear hK9
    refine Tri.cond (Has.t rfl) (fun hc2 => ?_) (fun hc2 => ?_)
    · have hc2 := BP.t hc2
      exact (normal_dead hc2).elim
    · have hc2 := BP.f hc2
      refine Tri.skip ?_
      refine At.bln ?_
      refine At.thn (hK7 _ _ ?_); clear hK7
      refine Tri.region ?_
      refine st (OK1.mv (Has.t rfl)) rfl ?_
      refine st (OK1.addI (Has.t rfl) (Has.cI 1 rfl) (by first | omega | assumption) (by first | omega | assumption)) rfl ?_
      refine st (OK1.as (Has.t rfl)) rfl ?_
      refine nl ?_
      refine At.thn ?_
      refine hK4 (⟨i + 1, by omega⟩) _ _ ?_ (Cv.mem (.cons (t := 3) (Has.t' rfl ?_) (.cons (t := 1) (Has.t rfl) .nil)) ?_)
      · show l.length - (i + 1) < l.length - i; omega
      · exact isI_eq (by omega)
      · rfl
  · have hc1 := BP.f hc1
    refine Tri.exit ?_
    refine At.the ?_
    refine At.the ?_
    refine At.blh ?_
    refine At.thn (hK2 _ _ ?_); clear hK2
    refine Tri.cv (Cv.wk (.cons (t := 1) (Has.t rfl) .nil)) ?_
    refine Tri.seq fun K10 hK10 => ?_
    refine Tri.region ?_
    refine st (OK1.load (Has.t rfl) (i := 0) rfl ty24 rfl (Ss' := [_, _, _]) rfl) rfl ?_
    refine st (OK1.eq (OK1.call (ref11_Formed) (.cons (Has.t rfl) .nil)) ((show _ = isB (formB r c l.length) from by rw [List.length_map]))) rfl ?_
    refine st (OK1.as (Has.t rfl)) rfl ?_
    refine nl ?_
    refine At.thn (hK10 _ _ ?_); clear hK10
    refine Tri.ret ?_
    refine rt1 (.inl rfl) Try.results32 rfl (.tmp (Has.t' rfl ?_) .nil)
    all_goals (rfl)
set_option maxHeartbeats 4000000 in
theorem ref11_Is {R C K N : Nat} {l : List Int} {ys : List (Bool × List Nat)} (hx : Bd l K) (hy : Bd (vals ys) N) (hK : K ≤ 400000000) (hN : N ≤ 400000000) (hR : R ≤ 64) (hC : C ≤ 64) (hl : l.length = R * C) (hyl : ys.length = R * C) (he : ∀ j, j < R * C → cf l j = cf (vals ys) j) : Ctr Try.prog 14 [isM (R : Int) (C : Int) (l.map nz), isI (R : Int), isI (C : Int), SlK 2 zc ys] (isB true) := by
  refine Ctr.intro Try.func14 rfl (by kernel_rfl) Try.ntmps14 rfl fun w0 F0 => ?_
  refine Tri.cv (Cv.wk (.cons (t := 0) (Has.t rfl) (.cons (t := 1) (Has.t rfl) (.cons (t := 2) (Has.t rfl) (.cons (t := 3) (Has.t rfl) .nil))))) ?_
  refine Tri.fact (Has.rngI (Has.t (t := 1) rfl)) fun lt1 => ?_
  refine Tri.fact (Has.rngI (Has.t (t := 2) rfl)) fun lt2 => ?_
  refine Tri.fact (Has.lenLt (Has.t (t := 3) rfl)) fun lt3 => ?_
  have hfo := formB_true hR hC hl
  have hRC := side_le hR hC
  have hcp : ((R : Int) * (C : Int)) = ((R * C : Nat) : Int) := (Int.natCast_mul R C).symm
  have hll : (l.map nz).length = R * C := by rw [List.length_map]; exact hl
  refine Tri.seq fun K1 hK1 => ?_
  refine Tri.region ?_
  refine Ops.box (Has.t rfl) rfl fun b1 => ?_
  refine st (OK1.as (Has.cB false)) rfl ?_
  refine nl ?_
  refine At.thn (hK1 _ _ ?_); clear hK1
  refine Tri.seq fun K2 hK2 => ?_
  refine Tri.seq fun K3 hK3 => ?_
  refine Tri.region ?_
  refine st (OK1.load (Has.t rfl) (i := 0) rfl ty24 rfl (Ss' := [_, _, _]) rfl) rfl ?_
  refine st (OK1.eq (OK1.call (ref11_Normal hx hK (by omega)) (.cons (Has.t rfl) .nil)) ((show isB _ = isB true from isB_eq (hfo)))) rfl ?_
  refine st (OK1.not (Has.t rfl)) rfl ?_
  refine st (OK1.mv (Has.t rfl)) rfl ?_
  refine stF rfl rfl (fun hg => have hg' := BP.t hg; OK1.fieldAddr (Has.t rfl) fld24_0 ty3) rfl ?_
  refine stF rfl rfl (fun hg => have hg' := BP.t hg; OK1.load1 (Has.g rfl hg) (i := 0) rfl ty3 rfl) rfl ?_
  refine stF rfl rfl (fun hg => have hg' := BP.t hg; OK1.mv (Has.t rfl)) rfl ?_
  refine stF rfl rfl (fun hg => have hg' := BP.t hg; OK1.neI (Has.g rfl hg) (Has.g rfl hg)) rfl ?_
  refine st (OK1.pickOr (Has.t rfl) (fun h => Has.g rfl (ng h))) rfl ?_
  refine st (OK1.mv (Has.t rfl)) rfl ?_
  refine stF rfl rfl (fun hg => have hg' := BP.t hg; OK1.fieldAddr (Has.t rfl) fld24_1 ty3) rfl ?_
  refine stF rfl rfl (fun hg => have hg' := BP.t hg; OK1.load1 (Has.g rfl hg) (i := 0) rfl ty3 rfl) rfl ?_
  refine stF rfl rfl (fun hg => have hg' := BP.t hg; OK1.mv (Has.t rfl)) rfl ?_
  refine stF rfl rfl (fun hg => have hg' := BP.t hg; OK1.neI (Has.g rfl hg) (Has.g rfl hg)) rfl ?_
  refine st (OK1.pickOr (Has.t rfl) (fun h => Has.g rfl (ng h))) rfl ?_
  refine st (OK1.mv (Has.t rfl)) rfl ?_
  refine stF rfl rfl (fun hg => have hg' := BP.t hg; OK1.mv (Has.t rfl)) rfl ?_
  refine stF rfl rfl (fun hg => have hg' := BP.t hg; OK1.len sl22 (Has.g rfl hg)) rfl ?_
  refine stF rfl rfl (fun hg => have hg' := BP.t hg; OK1.mv (Has.t rfl)) rfl ?_
  refine stF rfl rfl (fun hg => have hg' := BP.t hg; OK1.mv (Has.t rfl)) rfl ?_
  refine stF rfl rfl (fun hg => have hg' := BP.t hg; OK1.eq (OK1.mulI (Has.g rfl hg) (Has.g rfl hg) (by first | omega | (rw [hcp]; omega)) (by first | omega | (rw [hcp]; omega))) ((show isI _ = isI ((R * C : Nat) : Int) from isI_eq hcp))) rfl ?_
  refine stF rfl rfl (fun hg => have hg' := BP.t hg; OK1.neI (Has.g rfl hg) (Has.g rfl hg)) rfl ?_
  refine st (OK1.pickOr (Has.t rfl) (fun h => Has.g rfl (ng h))) rfl ?_
  refine nl ?_
  refine At.thn (hK3 _ _ ?_); clear hK3
  refine Tri.cv (Cv.wk (.cons (t := 3) (Has.t rfl) (.cons (t := 4) (Has.t rfl) (.cons (t := 8) (Has.t rfl) (.cons (t := 32) (Has.t rfl) .nil))))) ?_
  refine Tri.cond (Has.t rfl) (fun hc1 => ?_) (fun hc1 => ?_)
  · have hc1 := BP.t hc1
    exfalso; simp at hc1; omega
  · have hc1 := BP.f hc1
    refine Tri.skip ?_
    refine At.thn (hK2 _ _ ?_); clear hK2
    refine Tri.seq fun K4 hK4 => ?_
    refine Tri.seq fun K5 hK5 => ?_
    refine Tri.region ?_
    refine st (OK1.as (Has.cI 0 rfl)) rfl ?_
    refine nl ?_
    refine At.thn (hK5 _ _ ?_); clear hK5
    refine Tri.block ?_
    refine Tri.loopF [3, 4] (fun (z : { i : Nat // i ≤ R * C }) => match z with | ⟨i, hi⟩ => [(9, isI (i : Int))]) (fun M => fun (z : { i : Nat // i ≤ R * C }) => match z with | ⟨i, hi⟩ => M) (fun (z : { i : Nat // i ≤ R * C }) => match z with | ⟨i, hi⟩ => R * C - i) (⟨0, Nat.zero_le _⟩) (Cv.mem (.cons (t := 9) (Has.t' rfl ?_) (.cons (t := 3) (Has.t rfl) (.cons (t := 4) (Has.t rfl) .nil))) ?_) ?_
    · rfl
    · rfl
    rintro ⟨i, hi⟩ K6 hK6
    refine Tri.cv (Cv.wk (.cons (t := 9) (Has.t rfl) (.cons (t := 3) (Has.t rfl) (.cons (t := 4) (Has.t rfl) .nil)))) ?_
    refine Tri.seq fun K7 hK7 => ?_
    refine Tri.seq fun K8 hK8 => ?_
    refine Tri.region ?_
    refine st (OK1.mv (Has.t rfl)) rfl ?_
    refine st (OK1.mv (Has.t rfl)) rfl ?_
    refine st (OK1.len sl22 (Has.t rfl)) rfl ?_
    refine st (OK1.ltI (Has.t rfl) (Has.t rfl)) rfl ?_
    refine nl ?_
    refine At.thn (hK8 _ _ ?_); clear hK8
    refine Tri.cond (Has.t rfl) (fun hc2 => ?_) (fun hc2 => ?_)
    · have hc2 := BP.t hc2
      have hbi := hx i
      have hyi := hy.raw i
      refine Tri.skip ?_
      refine At.thn (hK7 _ _ ?_); clear hK7
      refine Tri.seq fun K9 hK9 => ?_
      refine Tri.block ?_
      refine Tri.seq fun K10 hK10 => ?_
      refine Tri.dr ?_
      refine DrG.st (i := 0) [] rfl rfl rfl (by kernel_rfl) (OKG.o rfl (OK1.fieldAddr (Has.t rfl) fld24_2 ty22)) ?_
      refine DrG.st (i := 1) [39] rfl rfl rfl (by kernel_rfl) (OKG.o rfl (OK1.load1 (Has.t rfl) (i := 0) rfl ty22 rfl)) ?_
      refine DrG.st (i := 2) [] rfl rfl rfl (by kernel_rfl) (OKG.o rfl (OK1.mv (Has.t rfl))) ?_
      refine DrG.st (i := 3) [40, 41] rfl rfl rfl (by kernel_rfl) (OKG.o rfl (OK1.ixK sl22 ty44 (Has.t rfl) (Has.t rfl) zc_len ⟨by omega, by omega⟩ (getZ (i := i) (by omega)))) ?_
      refine DrG.st (i := 4) [42] rfl rfl rfl (by kernel_rfl) (OKG.o rfl (OK1.loadP (Has.t rfl) ty44 rfl (Ss' := [_, _]) rfl)) ?_
      refine DrG.st (i := 5) [] rfl rfl rfl (by kernel_rfl) (OKG.o rfl (OK1.mv (Has.t rfl))) ?_
      refine DrG.st (i := 6) [] rfl rfl rfl (by kernel_rfl) (OKG.o rfl (OK1.mv (Has.t rfl))) ?_
      refine DrG.st (i := 7) [44, 45] rfl rfl rfl (by kernel_rfl) (OKG.o rfl (OK1.ixK sl22 ty44 (Has.t rfl) (Has.t rfl) zc_len ⟨by omega, by omega⟩ (getD_some (d := (false, [])) (by first | omega | (simp only [Int.toNat_natCast, List.length_set]; omega))))) ?_
      refine DrG.st (i := 8) [46] rfl rfl rfl (by kernel_rfl) (OKG.o rfl (OK1.loadP (Has.t rfl) ty44 rfl (Ss' := [_, _]) rfl)) ?_
      refine DrG.fin (n := 9) mixed (by kernel_rfl) (by kernel_rfl) (by kernel_rfl) ?_
      refine Ops.cv (Cv.wk (.cons (t := 3) (Has.t rfl) (.cons (t := 4) (Has.t rfl) (.cons (t := 9) (Has.t rfl) (.cons (t := 33) (Has.t rfl) (.cons (t := 34) (Has.t rfl) (.cons (t := 35) (Has.t rfl) (.cons (t := 36) (Has.t rfl) (.cons (t := 39) (Has.t rfl) (.cons (t := 40) (Has.t rfl) (.cons (t := 41) (Has.t rfl) (.cons (t := 42) (Has.t rfl) (.cons (t := 43) (Has.t rfl) (.cons (t := 44) (Has.t rfl) (.cons (t := 45) (Has.t rfl) (.cons (t := 46) (Has.t rfl) (.cons (t := 47) (Has.t rfl) .nil))))))))))))))))) ?_
      refine st (OK1.eq (OK1.call (zint_Same (by rw [val_words]; omega) (by show (List.length (words (val (ys.getD i (false, [])).2))) < _; omega)) (.cons (Has.t rfl) (.cons (Has.t rfl) .nil))) ((show isB _ = isB true from isB_eq (decide_eq_true (by rw [zv_nz, he i (by omega), cf_vals]; rfl))))) rfl ?_
      refine st (OK1.not (Has.t rfl)) rfl ?_
      refine nl ?_
      refine At.thn (hK10 _ _ ?_); clear hK10
      refine Tri.cond (Has.t rfl) (fun hc3 => ?_) (fun hc3 => ?_)
      · have hc3 := BP.t hc3
        exfalso; simp at hc3
      · have hc3 := BP.f hc3
        refine Tri.skip ?_
        refine At.bln ?_
        refine At.thn (hK9 _ _ ?_); clear hK9
        refine Tri.region ?_
        refine st (OK1.mv (Has.t rfl)) rfl ?_
        refine st (OK1.addI (Has.t rfl) (Has.cI 1 rfl) (by first | omega | assumption) (by first | omega | assumption)) rfl ?_
        refine st (OK1.as (Has.t rfl)) rfl ?_
        refine nl ?_
        refine At.thn ?_
        refine hK6 (⟨i + 1, by omega⟩) _ _ ?_ (Cv.mem (.cons (t := 9) (Has.t' rfl ?_) (.cons (t := 3) (Has.t rfl) (.cons (t := 4) (Has.t rfl) .nil))) ?_)
        · show R * C - (i + 1) < R * C - i; omega
        · exact isI_eq (by omega)
        · rfl
    · have hc2 := BP.f hc2
      refine Tri.exit ?_
      refine At.the ?_
      refine At.the ?_
      refine At.blh ?_
      refine At.thn (hK4 _ _ ?_); clear hK4
      refine Tri.cv (Cv.wk .nil) ?_
      refine Tri.seq fun K11 hK11 => ?_
      refine Tri.region ?_
      refine st (OK1.as (Has.cB true)) rfl ?_
      refine nl ?_
      refine At.thn (hK11 _ _ ?_); clear hK11
      refine Tri.ret ?_
      refine rt1 (.inl rfl) Try.results14 rfl (.tmp (Has.t' rfl ?_) .nil)
      all_goals (rfl)
set_option maxHeartbeats 4000000 in
theorem ref11_Mul {R C D K N : Nat} {xs ys : List (Bool × List Nat)} (hx : Bd (vals xs) K) (hy : Bd (vals ys) N) (hK : K + N ≤ 400000000) (hR : R ≤ 64) (hC : C ≤ 64) (hD : D ≤ 64) (hxl : xs.length = R * C) (hyl : ys.length = C * D) : Ctr Try.prog 60 [isM (R : Int) (C : Int) xs, isM (C : Int) (D : Int) ys] (isP (tab (R * D) D fun i k => dotS (fun j => cf (vals xs) (i * C + j)) (fun j => cf (vals ys) (j * D + k)) C)) := by
  refine Ctr.intro Try.func60 rfl (by kernel_rfl) Try.ntmps60 rfl fun w0 F0 => ?_
  refine Tri.cv (Cv.wk (.cons (t := 0) (Has.t rfl) (.cons (t := 1) (Has.t rfl) .nil))) ?_
  have h1 := side_le hR hC
  have h2 := side_le hC hD
  have h3 := side_le hR hD
  obtain ⟨G, hG⟩ : ∃ G : Nat → Nat → Int, G = fun i k => dotS (fun j => cf (vals xs) (i * C + j)) (fun j => cf (vals ys) (j * D + k)) C := ⟨_, rfl⟩
  rw [← hG]
  refine Tri.seq fun K1 hK1 => ?_
  refine Tri.region ?_
  refine Ops.box (Has.t rfl) rfl fun b1 => ?_
  refine Ops.box (Has.t rfl) rfl fun b2 => ?_
  refine st (OK1.as (Has.cWK (k := 2) (fk := zc))) rfl ?_
  refine nl ?_
  refine At.thn (hK1 _ _ ?_); clear hK1
  refine Tri.seq fun K2 hK2 => ?_
  refine Tri.region ?_
  refine Ops.cv (Cv.grow0K (α := Bool × List Nat) zc) ?_
  refine st (OK1.as (Has.cGr (α := Bool × List Nat))) rfl ?_
  refine nl ?_
  refine At.thn (hK2 _ _ ?_); clear hK2
  refine Tri.seq fun K3 hK3 => ?_
  refine Tri.seq fun K4 hK4 => ?_
  refine Tri.region ?_
  refine st (OK1.as (Has.cI 0 rfl)) rfl ?_
  refine nl ?_
  refine At.thn (hK4 _ _ ?_); clear hK4
  refine Tri.block ?_
  refine Tri.loopF [2, 3, 4] (fun (z : { z : Nat × Gr (Bool × List Nat) // z.1 ≤ R }) => match z with | ⟨(i, g), hI⟩ => [(6, isI (i : Int)), (5, isGr g ((tab (i * D + 0) D G).map nz).length)]) (fun M => fun (z : { z : Nat × Gr (Bool × List Nat) // z.1 ≤ R }) => match z with | ⟨(i, g), hI⟩ => [grMK zc g ((tab (i * D + 0) D G).map nz), (some b2, cellM [isI (C : Int), isI (D : Int), SlK 2 zc ys]), (some b1, cellM [isI (R : Int), isI (C : Int), SlK 2 zc xs])]) (fun (z : { z : Nat × Gr (Bool × List Nat) // z.1 ≤ R }) => match z with | ⟨(i, g), hI⟩ => R - i) (⟨(0, Gr.nil), Nat.zero_le _⟩) (Cv.mem (.cons (t := 6) (Has.t' rfl ?_) (.cons (t := 5) (Has.t' rfl ?_) (.cons (t := 2) (Has.t rfl) (.cons (t := 3) (Has.t rfl) (.cons (t := 4) (Has.t rfl) .nil))))) ?_) ?_
  · rfl
  · exact isGr_eq (by rw [List.length_map, tab_len, Nat.zero_mul])
  · exact grMK_eq (show [] = (tab (0 * D + 0) D G).map nz by rw [Nat.zero_mul]; rfl)
  rintro ⟨⟨i, g⟩, hI⟩ K5 hK5
  refine Tri.cv (Cv.wk (.cons (t := 6) (Has.t rfl) (.cons (t := 5) (Has.t rfl) (.cons (t := 2) (Has.t rfl) (.cons (t := 3) (Has.t rfl) (.cons (t := 4) (Has.t rfl) .nil)))))) ?_
  refine Tri.memEq (M' := [grMK zc g ((tab (i * D + 0) D G).map nz), (some b2, cellM [isI (C : Int), isI (D : Int), SlK 2 zc ys]), (some b1, cellM [isI (R : Int), isI (C : Int), SlK 2 zc xs])]) rfl ?_
  simp only [] at hI
  refine Tri.seq fun K6 hK6 => ?_
  refine Tri.seq fun K7 hK7 => ?_
  refine Tri.region ?_
  refine st (OK1.mv (Has.t rfl)) rfl ?_
  refine st (OK1.fieldAddr (Has.t rfl) fld24_0 ty3) rfl ?_
  refine st (OK1.load1 (Has.t rfl) (i := 2) rfl ty3 rfl) rfl ?_
  refine st (OK1.ltI (Has.t rfl) (Has.t rfl)) rfl ?_
  refine nl ?_
  refine At.thn (hK7 _ _ ?_); clear hK7
  refine Tri.cond (Has.t rfl) (fun hc1 => ?_) (fun hc1 => ?_)
  · have hc1 := BP.t hc1
    refine Tri.skip ?_
    refine At.thn (hK6 _ _ ?_); clear hK6
    refine Tri.seq fun K8 hK8 => ?_
    refine Tri.block ?_
    refine Tri.seq fun K9 hK9 => ?_
    refine Tri.region ?_
    refine st (OK1.as (Has.cI 0 rfl)) rfl ?_
    refine nl ?_
    refine At.thn (hK9 _ _ ?_); clear hK9
    refine Tri.block ?_
    refine Tri.loopF [2, 3, 4, 6, 10, 11, 12, 13] (fun (z : { z : Nat × Gr (Bool × List Nat) // z.1 ≤ D }) => match z with | ⟨(k, g2), hK2⟩ => [(7, isI (k : Int)), (5, isGr g2 ((tab (i * D + k) D G).map nz).length)]) (fun M => fun (z : { z : Nat × Gr (Bool × List Nat) // z.1 ≤ D }) => match z with | ⟨(k, g2), hK2⟩ => [grMK zc g2 ((tab (i * D + k) D G).map nz), (some b2, cellM [isI (C : Int), isI (D : Int), SlK 2 zc ys]), (some b1, cellM [isI (R : Int), isI (C : Int), SlK 2 zc xs])]) (fun (z : { z : Nat × Gr (Bool × List Nat) // z.1 ≤ D }) => match z with | ⟨(k, g2), hK2⟩ => D - k) (⟨(0, g), Nat.zero_le _⟩) (Cv.mem (.cons (t := 7) (Has.t' rfl ?_) (.cons (t := 5) (Has.t' rfl ?_) (.cons (t := 2) (Has.t rfl) (.cons (t := 3) (Has.t rfl) (.cons (t := 4) (Has.t rfl) (.cons (t := 6) (Has.t rfl) (.cons (t := 10) (Has.t rfl) (.cons (t := 11) (Has.t rfl) (.cons (t := 12) (Has.t rfl) (.cons (t := 13) (Has.t rfl) .nil)))))))))) ?_) ?_
    · rfl
    · rfl
    · rfl
    rintro ⟨⟨k, g2⟩, hK2⟩ K10 hK10
    refine Tri.cv (Cv.wk (.cons (t := 7) (Has.t rfl) (.cons (t := 5) (Has.t rfl) (.cons (t := 2) (Has.t rfl) (.cons (t := 3) (Has.t rfl) (.cons (t := 4) (Has.t rfl) (.cons (t := 6) (Has.t rfl) (.cons (t := 10) (Has.t rfl) (.cons (t := 11) (Has.t rfl) (.cons (t := 12) (Has.t rfl) (.cons (t := 13) (Has.t rfl) .nil))))))))))) ?_
    refine Tri.memEq (M' := [grMK zc g2 ((tab (i * D + k) D G).map nz), (some b2, cellM [isI (C : Int), isI (D : Int), SlK 2 zc ys]), (some b1, cellM [isI (R : Int), isI (C : Int), SlK 2 zc xs])]) rfl ?_
    simp only [] at hK2
    refine Tri.seq fun K11 hK11 => ?_
    refine Tri.seq fun K12 hK12 => ?_
    refine Tri.region ?_
    refine st (OK1.mv (Has.t rfl)) rfl ?_
    refine st (OK1.fieldAddr (Has.t rfl) fld24_1 ty3) rfl ?_
    refine st (OK1.load1 (Has.t rfl) (i := 1) rfl ty3 rfl) rfl ?_
    refine st (OK1.ltI (Has.t rfl) (Has.t rfl)) rfl ?_
    refine nl ?_
    refine At.thn (hK12 _ _ ?_); clear hK12
    refine Tri.cond (Has.t rfl) (fun hc2 => ?_) (fun hc2 => ?_)
    · have hc2 := BP.t hc2
      refine Tri.skip ?_
      refine At.thn (hK11 _ _ ?_); clear hK11
      refine Tri.seq fun K13 hK13 => ?_
      refine Tri.block ?_
      refine Tri.seq fun K14 hK14 => ?_
      refine Tri.region ?_
      refine st (OK1.call (zint_Of) (.cons (Has.cI 0 rfl) .nil)) rfl ?_
      refine Ops.alloc [isB false, SlM isU []] zero44 (fun _ _ => ⟨rfl, nilM _ _, trivial⟩) rfl fun b3 => ?_
      refine Ops.store (Has.t rfl) (Has.t rfl) (i := 0) rfl ty44 rfl rfl (Ss' := [_, _]) rfl (M' := [(some _, cellM [_, _]), _, _, _]) rfl ?_
      refine nl ?_
      refine At.thn (hK14 _ _ ?_); clear hK14
      refine Tri.seq fun K15 hK15 => ?_
      refine Tri.seq fun K16 hK16 => ?_
      refine Tri.region ?_
      refine st (OK1.as (Has.cI 0 rfl)) rfl ?_
      refine nl ?_
      refine At.thn (hK16 _ _ ?_); clear hK16
      refine Tri.block ?_
      refine Tri.loopF [2, 3, 4, 6, 10, 11, 12, 13, 7, 5, 16, 17, 18, 19, 22, 8] (fun (z : { j : Nat // j ≤ C }) => match z with | ⟨j, hj⟩ => [(9, isI (j : Int))]) (fun M => fun (z : { j : Nat // j ≤ C }) => match z with | ⟨j, hj⟩ => [zM b3 (dotS (fun j => cf (vals xs) (i * C + j)) (fun j => cf (vals ys) (j * D + k)) j), grMK zc g2 ((tab (i * D + k) D G).map nz), (some b2, cellM [isI (C : Int), isI (D : Int), SlK 2 zc ys]), (some b1, cellM [isI (R : Int), isI (C : Int), SlK 2 zc xs])]) (fun (z : { j : Nat // j ≤ C }) => match z with | ⟨j, hj⟩ => C - j) (⟨0, Nat.zero_le _⟩) (Cv.mem (.cons (t := 9) (Has.t' rfl ?_) (.cons (t := 2) (Has.t rfl) (.cons (t := 3) (Has.t rfl) (.cons (t := 4) (Has.t rfl) (.cons (t := 6) (Has.t rfl) (.cons (t := 10) (Has.t rfl) (.cons (t := 11) (Has.t rfl) (.cons (t := 12) (Has.t rfl) (.cons (t := 13) (Has.t rfl) (.cons (t := 7) (Has.t rfl) (.cons (t := 5) (Has.t rfl) (.cons (t := 16) (Has.t rfl) (.cons (t := 17) (Has.t rfl) (.cons (t := 18) (Has.t rfl) (.cons (t := 19) (Has.t rfl) (.cons (t := 22) (Has.t rfl) (.cons (t := 8) (Has.t rfl) .nil))))))))))))))))) ?_) ?_
      · rfl
      · rfl
      rintro ⟨j, hj⟩ K17 hK17
      refine Tri.cv (Cv.wk (.cons (t := 9) (Has.t rfl) (.cons (t := 2) (Has.t rfl) (.cons (t := 3) (Has.t rfl) (.cons (t := 4) (Has.t rfl) (.cons (t := 6) (Has.t rfl) (.cons (t := 10) (Has.t rfl) (.cons (t := 11) (Has.t rfl) (.cons (t := 12) (Has.t rfl) (.cons (t := 13) (Has.t rfl) (.cons (t := 7) (Has.t rfl) (.cons (t := 5) (Has.t rfl) (.cons (t := 16) (Has.t rfl) (.cons (t := 17) (Has.t rfl) (.cons (t := 18) (Has.t rfl) (.cons (t := 19) (Has.t rfl) (.cons (t := 22) (Has.t rfl) (.cons (t := 8) (Has.t rfl) .nil)))))))))))))))))) ?_
      refine Tri.memEq (M' := [zM b3 (dotS (fun j => cf (vals xs) (i * C + j)) (fun j => cf (vals ys) (j * D + k)) j), grMK zc g2 ((tab (i * D + k) D G).map nz), (some b2, cellM [isI (C : Int), isI (D : Int), SlK 2 zc ys]), (some b1, cellM [isI (R : Int), isI (C : Int), SlK 2 zc xs])]) rfl ?_
      have hds := dotS_nw (f := fun j => cf (vals xs) (i * C + j)) (g := fun j => cf (vals ys) (j * D + k)) (K := K) (L := N) (fun j => hx _) (fun j => hy _) j
      obtain ⟨s, hs⟩ : ∃ s, s = dotS (fun j => cf (vals xs) (i * C + j)) (fun j => cf (vals ys) (j * D + k)) j := ⟨_, rfl⟩
      rw [← hs] at hds
      refine Tri.seq fun K18 hK18 => ?_
      refine Tri.seq fun K19 hK19 => ?_
      refine Tri.region ?_
      refine st (OK1.mv (Has.t rfl)) rfl ?_
      refine st (OK1.fieldAddr (Has.t rfl) fld24_1 ty3) rfl ?_
      refine st (OK1.load1 (Has.t rfl) (i := 3) rfl ty3 rfl) rfl ?_
      refine st (OK1.ltI (Has.t rfl) (Has.t rfl)) rfl ?_
      refine nl ?_
      refine At.thn (hK19 _ _ ?_); clear hK19
      refine Tri.cond (Has.t rfl) (fun hc3 => ?_) (fun hc3 => ?_)
      · have hc3 := BP.t hc3
        have hj2 : j < C := (by omega)
        have hp1 := place_lt (show i < R by omega) hj2
        have hp2 := place_lt hj2 (show k < D by omega)
        have hxr := hx.raw (i * C + j)
        have hyr := hy.raw (j * D + k)
        have hfk := hx (i * C + j)
        have hgk := hy (j * D + k)
        have hmm := nz_mul (cf (vals xs) (i * C + j)) (cf (vals ys) (j * D + k))
        refine Tri.skip ?_
        refine At.thn (hK18 _ _ ?_); clear hK18
        refine Tri.seq fun K20 hK20 => ?_
        refine Tri.block ?_
        refine Tri.dr ?_
        refine DrG.st (i := 0) [] rfl rfl rfl (by kernel_rfl) (OKG.o rfl (OK1.load (Has.t rfl) (i := 0) rfl ty44 rfl (Ss' := [_, _]) rfl)) ?_
        refine DrG.st (i := 1) [] rfl rfl rfl (by kernel_rfl) (OKG.o rfl (OK1.load (Has.t rfl) (i := 3) rfl ty24 rfl (Ss' := [_, _, _]) rfl)) ?_
        refine DrG.st (i := 2) [] rfl rfl rfl (by kernel_rfl) (OKG.o rfl (OK1.mv (Has.t rfl))) ?_
        refine DrG.st (i := 3) [] rfl rfl rfl (by kernel_rfl) (OKG.o rfl (OK1.mv (Has.t rfl))) ?_
        refine DrG.st (i := 4) [30, 31, 32] rfl rfl rfl (by kernel_rfl) (OKG.o rfl (OK1.call (ref11_At (i := i) (k := j) (by omega) (by omega)) (.cons (Has.t rfl) (.cons (Has.t rfl) (.cons (Has.t rfl) .nil))))) ?_
        refine DrG.st (i := 5) [] rfl rfl rfl (by kernel_rfl) (OKG.o rfl (OK1.load (Has.t rfl) (i := 2) rfl ty24 rfl (Ss' := [_, _, _]) rfl)) ?_
        refine DrG.st (i := 6) [] rfl rfl rfl (by kernel_rfl) (OKG.o rfl (OK1.mv (Has.t rfl))) ?_
        refine DrG.st (i := 7) [] rfl rfl rfl (by kernel_rfl) (OKG.o rfl (OK1.mv (Has.t rfl))) ?_
        refine DrG.st (i := 8) [34, 35, 36] rfl rfl rfl (by kernel_rfl) (OKG.o rfl (OK1.call (ref11_At (i := j) (k := k) (by omega) (by omega)) (.cons (Has.t rfl) (.cons (Has.t rfl) (.cons (Has.t rfl) .nil))))) ?_
        refine DrG.st (i := 9) [33, 37] rfl rfl rfl (by kernel_rfl) (OKG.o rfl (OK1.eq (OK1.call (zint_Mul (by omega) (by omega)) (.cons (Has.t rfl) (.cons (Has.t rfl) .nil))) ((show isZ _ = isZ (cf (vals xs) (i * C + j) * cf (vals ys) (j * D + k)) from isZ_eq (by rw [cf_vals, cf_vals]))))) ?_
        refine DrG.fin (n := 10) mixed (by kernel_rfl) (by kernel_rfl) (by kernel_rfl) ?_
        refine Ops.cv (Cv.wk (.cons (t := 2) (Has.t rfl) (.cons (t := 3) (Has.t rfl) (.cons (t := 4) (Has.t rfl) (.cons (t := 6) (Has.t rfl) (.cons (t := 10) (Has.t rfl) (.cons (t := 11) (Has.t rfl) (.cons (t := 12) (Has.t rfl) (.cons (t := 13) (Has.t rfl) (.cons (t := 7) (Has.t rfl) (.cons (t := 5) (Has.t rfl) (.cons (t := 16) (Has.t rfl) (.cons (t := 17) (Has.t rfl) (.cons (t := 18) (Has.t rfl) (.cons (t := 19) (Has.t rfl) (.cons (t := 22) (Has.t rfl) (.cons (t := 8) (Has.t rfl) (.cons (t := 9) (Has.t rfl) (.cons (t := 23) (Has.t rfl) (.cons (t := 24) (Has.t rfl) (.cons (t := 25) (Has.t rfl) (.cons (t := 26) (Has.t rfl) (.cons (t := 29) (Has.t rfl) (.cons (t := 30) (Has.t rfl) (.cons (t := 31) (Has.t rfl) (.cons (t := 32) (Has.t rfl) (.cons (t := 33) (Has.t rfl) (.cons (t := 34) (Has.t rfl) (.cons (t := 35) (Has.t rfl) (.cons (t := 36) (Has.t rfl) (.cons (t := 37) (Has.t rfl) (.cons (t := 38) (Has.t rfl) .nil)))))))))))))))))))))))))))))))) ?_
        refine st (OK1.eq (OK1.call (zint_Add (by rw [val_words, ← hs]; omega) (by rw [val_words]; omega)) (.cons (Has.t rfl) (.cons (Has.t rfl) .nil))) ((show isZ _ = isZ (dotS (fun j => cf (vals xs) (i * C + j)) (fun j => cf (vals ys) (j * D + k)) (j + 1)) from isZ_eq (by simp only [zv_nf]; rfl)))) rfl ?_
        refine Ops.store (Has.t rfl) (Has.t rfl) (i := 0) rfl ty44 rfl rfl (Ss' := [_, _]) rfl (M' := [(some _, cellM [_, _]), _, _, _]) rfl ?_
        refine nl ?_
        refine At.bln ?_
        refine At.thn (hK20 _ _ ?_); clear hK20
        refine Tri.region ?_
        refine st (OK1.mv (Has.t rfl)) rfl ?_
        refine st (OK1.addI (Has.t rfl) (Has.cI 1 rfl) (by first | omega | assumption) (by first | omega | assumption)) rfl ?_
        refine st (OK1.as (Has.t rfl)) rfl ?_
        refine nl ?_
        refine At.thn ?_
        refine hK17 (⟨j + 1, by omega⟩) _ _ ?_ (Cv.mem (.cons (t := 9) (Has.t' rfl ?_) (.cons (t := 2) (Has.t rfl) (.cons (t := 3) (Has.t rfl) (.cons (t := 4) (Has.t rfl) (.cons (t := 6) (Has.t rfl) (.cons (t := 10) (Has.t rfl) (.cons (t := 11) (Has.t rfl) (.cons (t := 12) (Has.t rfl) (.cons (t := 13) (Has.t rfl) (.cons (t := 7) (Has.t rfl) (.cons (t := 5) (Has.t rfl) (.cons (t := 16) (Has.t rfl) (.cons (t := 17) (Has.t rfl) (.cons (t := 18) (Has.t rfl) (.cons (t := 19) (Has.t rfl) (.cons (t := 22) (Has.t rfl) (.cons (t := 8) (Has.t rfl) .nil))))))))))))))))) ?_)
        · show C - (j + 1) < C - j; omega
        · exact isI_eq (by omega)
        · rfl
      · have hc3 := BP.f hc3
        have hjC : j = C := (by omega)
        refine Tri.exit ?_
        refine At.the ?_
        refine At.the ?_
        refine At.blh ?_
        refine At.thn (hK15 _ _ ?_); clear hK15
        refine Tri.region ?_
        refine st (OK1.mv (Has.t rfl)) rfl ?_
        refine st (OK1.eq (OK1.load (Has.t rfl) (i := 0) rfl ty44 rfl (Ss' := [_, _]) rfl) ((show _ = Flat (zc (nz (G i k))) from isZ_eq (by rw [hG, hjC])))) rfl ?_
        refine st (OK1.buildS [isB false, SlM isU []] sl22 ty44 zero44 (fun _ _ => ⟨rfl, nilM _ _, trivial⟩) rfl rfl (.cons (Has.t rfl) rfl rfl rfl .nil) rfl (S := SlK 2 zc [nz (G i k)]) rfl) rfl ?_
        refine Ops.appendGK (fk := zc) (u := (false, [])) zc_len (by decide) (fun _ => inferInstance) sl22 ty44 zero44 (fun _ _ => ⟨rfl, nilM _ _, trivial⟩) by44 (Has.t rfl) (i := 1) rfl (Has.t rfl) (by have hpl := place_lt (show i < R by omega) (show k < D by omega); rw [List.length_map, tab_len]; show i * D + k + 1 ≤ _; omega) (by simp) rfl fun gr1 => ?_
        refine Ops.memEq (M' := [_, grMK _ _ _, _, _]) rfl ?_
        refine st (OK1.as (Has.t rfl)) rfl ?_
        refine nl ?_
        refine At.bln ?_
        refine At.thn (hK13 _ _ ?_); clear hK13
        refine Tri.region ?_
        refine st (OK1.mv (Has.t rfl)) rfl ?_
        refine st (OK1.addI (Has.t rfl) (Has.cI 1 rfl) (by first | omega | assumption) (by first | omega | assumption)) rfl ?_
        refine st (OK1.as (Has.t rfl)) rfl ?_
        refine nl ?_
        refine At.thn ?_
        refine hK10 (⟨(k + 1, gr1), by show k + 1 ≤ D; omega⟩) _ _ ?_ (Cv.trans (Cv.drop ((.cons _ (.cons_cons _ (.cons_cons _ (.cons_cons _ .slnil)))))) (Cv.mem (.cons (t := 7) (Has.t' rfl ?_) (.cons (t := 5) (Has.t' rfl ?_) (.cons (t := 2) (Has.t rfl) (.cons (t := 3) (Has.t rfl) (.cons (t := 4) (Has.t rfl) (.cons (t := 6) (Has.t rfl) (.cons (t := 10) (Has.t rfl) (.cons (t := 11) (Has.t rfl) (.cons (t := 12) (Has.t rfl) (.cons (t := 13) (Has.t rfl) .nil)))))))))) ?_))
        · show D - (k + 1) < D - k; omega
        · exact isI_eq (by omega)
        · exact isGr_eq (by rw [← tab_succ G (show k < D by omega), List.map_append, List.length_append]; rfl)
        · exact grMK_eq (by rw [← tab_succ G (show k < D by omega), List.map_append]; rfl)
    · have hc2 := BP.f hc2
      refine Tri.exit ?_
      refine At.the ?_
      refine At.the ?_
      refine At.blh ?_
      refine At.bln ?_
      refine At.thn (hK8 _ _ ?_); clear hK8
      refine Tri.region ?_
      refine st (OK1.mv (Has.t rfl)) rfl ?_
      refine st (OK1.addI (Has.t rfl) (Has.cI 1 rfl) (by first | omega | assumption) (by first | omega | assumption)) rfl ?_
      refine st (OK1.as (Has.t rfl)) rfl ?_
      refine nl ?_
      refine At.thn ?_
      have hkD : k = D := by omega
      refine hK5 (⟨(i + 1, g2), by show i + 1 ≤ R; omega⟩) _ _ ?_ (Cv.mem (.cons (t := 6) (Has.t' rfl ?_) (.cons (t := 5) (Has.t' rfl ?_) (.cons (t := 2) (Has.t rfl) (.cons (t := 3) (Has.t rfl) (.cons (t := 4) (Has.t rfl) .nil))))) ?_)
      · show R - (i + 1) < R - i; omega
      · exact isI_eq (by omega)
      · exact isGr_eq (by rw [hkD, tab_next])
      · exact grMK_eq (by rw [hkD, tab_next])
  · have hc1 := BP.f hc1
    refine Tri.exit ?_
    refine At.the ?_
    refine At.the ?_
    refine At.blh ?_
    refine At.thn (hK3 _ _ ?_); clear hK3
    refine Tri.cv (Cv.wk (.cons (t := 4) (Has.t rfl) (.cons (t := 5) (Has.t rfl) .nil))) ?_
    refine Tri.seq fun K21 hK21 => ?_
    refine Tri.cv (Cv.freezeGK (t := 5) (i := 0) (ys := (tab (i * D + 0) D G).map nz) zc_len rfl rfl rfl) ?_
    refine Tri.memEq (M' := [_, _]) rfl ?_
    refine Tri.cv (Cv.wk (.cons (t := 4) (Has.t rfl) (.cons (t := 5) (Has.t rfl) .nil))) ?_
    refine Tri.region ?_
    refine st (OK1.mv (Has.t rfl)) rfl ?_
    refine st (OK1.as (Has.t rfl)) rfl ?_
    refine nl ?_
    refine At.thn (hK21 _ _ ?_); clear hK21
    refine Tri.ret ?_
    refine rt1 (.inl rfl) Try.results60 rfl (.tmp (Has.t' rfl ?_) .nil)
    all_goals (exact isPl_eq (by rw [Nat.add_zero, show i = R by omega]))
end Go.Proofs.Ytgkbekcpmbjbdaa
