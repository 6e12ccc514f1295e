/- Rules and contracts, part 4 of 5. -/
import Derived.Test.YtgkbekcpmbjbdaaQZpolyReduces3
/- Contracts: polynomials over the whole numbers: their lists. -/
namespace Go.Proofs.Ytgkbekcpmbjbdaa
open Go.En Go.RowKit
set_option linter.unusedVariables false
set_option maxRecDepth 10000
open Go.Nt
open Go.Pz
set_option maxHeartbeats 4000000 in
theorem zpoly_at {xs : List (Bool × List Nat)} {i : Nat} : Ctr Try.prog 140 [SlK 2 zc xs, isI (i : Int)] (Flat (zc (xs.getD i (false, [])))) := by
  refine Ctr.intro Try.func140 rfl (by kernel_rfl) Try.ntmps140 rfl fun w0 F0 => ?_
  refine Tri.cv (Cv.wk (.cons (t := 0) (Has.t rfl) (.cons (t := 1) (Has.t rfl) .nil))) ?_
  refine Tri.fact (Has.lenLt (Has.t (t := 0) rfl)) fun lt0 => ?_
  refine Tri.fact (Has.rngI (Has.t (t := 1) rfl)) fun lt1 => ?_
  refine Tri.seq fun K1 hK1 => ?_
  refine Tri.region ?_
  refine Ops.alloc [isB false, SlM isU []] zero44 (fun _ _ => ⟨rfl, nilM _ _, trivial⟩) rfl fun b1 => ?_
  refine nl ?_
  refine At.thn (hK1 _ _ ?_); clear hK1
  refine Tri.seq fun K2 hK2 => ?_
  refine Tri.seq fun K3 hK3 => ?_
  refine Tri.region ?_
  refine st (OK1.mv (Has.t rfl)) rfl ?_
  refine st (OK1.mv (Has.t rfl)) rfl ?_
  refine st (OK1.len sl34 (Has.t rfl)) rfl ?_
  refine st (OK1.ltI (Has.t rfl) (Has.t rfl)) rfl ?_
  refine nl ?_
  refine At.thn (hK3 _ _ ?_); clear hK3
  refine Tri.cond (Has.t rfl) (fun hc1 => ?_) (fun hc1 => ?_)
  · have hc1 := BP.t hc1
    refine Tri.seq fun K4 hK4 => ?_
    refine Tri.region ?_
    refine st (OK1.mv (Has.t rfl)) rfl ?_
    refine st (OK1.mv (Has.t rfl)) rfl ?_
    refine st (OK1.ixK sl34 ty44 (Has.t rfl) (Has.t rfl) zc_len ⟨by omega, by omega⟩ (getD_some (d := (false, [])) (by first | omega | (simp only [Int.toNat_natCast, List.length_set]; omega)))) rfl ?_
    refine st (OK1.loadP (Has.t rfl) ty44 rfl (Ss' := [_, _]) rfl) rfl ?_
    refine Ops.store (Has.t rfl) (Has.t rfl) (i := 0) rfl ty44 rfl rfl (Ss' := [_, _]) rfl (M' := [(some _, cellM [_, _])]) rfl ?_
    refine nl ?_
    refine At.thn (hK4 _ _ ?_); clear hK4
    refine Tri.cv (Cv.wk (.cons (t := 4) (Has.t rfl) .nil)) ?_
    refine Tri.ret ?_
    refine At.thr ?_
    refine rt1 (.inl rfl) Try.results140 rfl (.cell rfl (i := 0) rfl ty44 rfl ?_ .nil)
    all_goals (rfl)
  · have hc1 := BP.f hc1
    refine Tri.skip ?_
    refine At.thn (hK2 _ _ ?_); clear hK2
    refine Tri.cv (Cv.wk (.cons (t := 4) (Has.t rfl) .nil)) ?_
    refine Tri.seq fun K5 hK5 => ?_
    refine Tri.region ?_
    refine st (OK1.build [isB false, SlM isU []] pl44 zero44 (fun _ _ => ⟨rfl, nilM _ _, trivial⟩) .nil (Z'' := [_, _]) rfl) rfl ?_
    refine Ops.store (Has.t rfl) (Has.t rfl) (i := 0) rfl ty44 rfl rfl (Ss' := [_, _]) rfl (M' := [(some _, cellM [_, _])]) rfl ?_
    refine nl ?_
    refine At.thn (hK5 _ _ ?_); clear hK5
    refine Tri.ret ?_
    refine rt1 (.inl rfl) Try.results140 rfl (.cell rfl (i := 0) rfl ty44 rfl ?_ .nil)
    all_goals (exact congrArg Flat (show zc (false, []) = _ by rw [List.getD, List.getElem?_eq_none (by omega)]; rfl))
set_option maxHeartbeats 4000000 in
theorem zpoly_Norm {xs : List (Bool × List Nat)} {K : Nat} (hx : Bd (vals xs) K) (hK : K ≤ 4000000000) (hn : xs.length ≤ 1000000) : Ctr Try.prog 98 [SlK 2 zc xs] (isP (pnorm (vals xs))) := by
  refine Ctr.intro Try.func98 rfl (by kernel_rfl) Try.ntmps98 rfl fun w0 F0 => ?_
  refine Tri.cv (Cv.wk (.cons (t := 0) (Has.t rfl) .nil)) ?_
  refine Tri.fact (Has.lenLt (Has.t (t := 0) rfl)) fun lt0 => ?_
  refine Tri.seq fun K1 hK1 => ?_
  refine Tri.region ?_
  refine st (OK1.as (Has.cWK (k := 2) (fk := zc))) rfl ?_
  refine nl ?_
  refine At.thn (hK1 _ _ ?_); clear hK1
  refine Tri.seq fun K2 hK2 => ?_
  refine Tri.region ?_
  refine st (OK1.mv (Has.t rfl)) rfl ?_
  refine st (OK1.len sl34 (Has.t rfl)) rfl ?_
  refine st (OK1.as (Has.t rfl)) rfl ?_
  refine nl ?_
  refine At.thn (hK2 _ _ ?_); clear hK2
  refine Tri.seq fun K3 hK3 => ?_
  refine Tri.block ?_
  refine Tri.loopF [0, 2] (fun (z : { n : Nat // n ≤ xs.length ∧ ∀ i, n ≤ i → cf (vals xs) i = 0 }) => match z with | ⟨n, hI⟩ => [(3, isI (n : Int))]) (fun M => fun (z : { n : Nat // n ≤ xs.length ∧ ∀ i, n ≤ i → cf (vals xs) i = 0 }) => match z with | ⟨n, hI⟩ => M) (fun (z : { n : Nat // n ≤ xs.length ∧ ∀ i, n ≤ i → cf (vals xs) i = 0 }) => match z with | ⟨n, hI⟩ => n) (⟨xs.length, Nat.le_refl _, fun i hi => cf_high (by rw [vals_len]; exact hi)⟩) (Cv.mem (.cons (t := 3) (Has.t' rfl ?_) (.cons (t := 0) (Has.t rfl) (.cons (t := 2) (Has.t rfl) .nil))) ?_) ?_
  · rfl
  · rfl
  rintro ⟨n, hk, hz⟩ K4 hK4
  refine Tri.cv (Cv.wk (.cons (t := 3) (Has.t rfl) (.cons (t := 0) (Has.t rfl) (.cons (t := 2) (Has.t rfl) .nil)))) ?_
  have ek : ((n : Int) - 1).toNat = n - 1 := by omega
  refine Tri.seq fun K5 hK5 => ?_
  refine Tri.seq fun K6 hK6 => ?_
  refine Tri.region ?_
  refine st (OK1.mv (Has.t rfl)) rfl ?_
  refine st (OK1.gtI (Has.t rfl) (Has.cI 0 rfl)) rfl ?_
  refine st (OK1.mv (Has.t rfl)) rfl ?_
  refine stT rfl rfl (fun hg => have hg' := BP.t hg; OK1.mv (Has.t rfl)) rfl ?_
  refine stT rfl rfl (fun hg => have hg' := BP.t hg; OK1.mv (Has.t rfl)) rfl ?_
  refine stT rfl rfl (fun hg => have hg' := BP.t hg; OK1.subI (Has.g rfl hg) (Has.cI 1 rfl) (by first | omega | (have := hx.raw ((n : Int) - 1).toNat; omega)) (by first | omega | (have := hx.raw ((n : Int) - 1).toNat; omega))) rfl ?_
  refine stT rfl rfl (fun hg => have hg' := BP.t hg; OK1.ixK sl34 ty44 (Has.g rfl hg) (Has.g rfl hg) zc_len ⟨by omega, by omega⟩ (getD_some (d := (false, [])) (by first | omega | (simp only [Int.toNat_natCast, List.length_set]; omega)))) rfl ?_
  refine stT rfl rfl (fun hg => have hg' := BP.t hg; OK1.loadP (Has.g rfl hg) ty44 rfl (Ss' := [_, _]) rfl) rfl ?_
  refine stT rfl rfl (fun hg => have hg' := BP.t hg; OK1.call (zint_Sign (by first | omega | (have := hx.raw ((n : Int) - 1).toNat; omega))) (.cons (Has.g rfl hg) .nil)) rfl ?_
  refine stT rfl rfl (fun hg => have hg' := BP.t hg; OK1.eqI (Has.g rfl hg) (Has.cI 0 rfl)) rfl ?_
  refine st (OK1.pickAnd (Has.t rfl) (fun h => Has.g rfl h)) rfl ?_
  refine nl ?_
  refine At.thn (hK6 _ _ ?_); clear hK6
  refine Tri.cond (Has.t rfl) (fun hc1 => ?_) (fun hc1 => ?_)
  · have hc1 := BP.t hc1
    have HA1 := hc1
    refine Tri.skip ?_
    refine At.thn (hK5 _ _ ?_); clear hK5
    refine Tri.block ?_
    refine Tri.region ?_
    refine st (OK1.mv (Has.t rfl)) rfl ?_
    refine st (OK1.subI (Has.t rfl) (Has.cI 1 rfl) (by first | omega | assumption) (by first | omega | assumption)) rfl ?_
    refine st (OK1.as (Has.t rfl)) rfl ?_
    refine nl ?_
    refine At.bln ?_
    refine At.thn ?_
    refine hK4 (⟨n - 1, by omega, fun i hi => by rcases Nat.lt_or_ge i n with h | h; (have e : i = n - 1 := by omega); (have := (sgn_eq0 _).1 HA1.2; rw [← cf_vals, ek] at this; rw [e]; exact this); exact hz i h⟩) _ _ ?_ (Cv.mem (.cons (t := 3) (Has.t' rfl ?_) (.cons (t := 0) (Has.t rfl) (.cons (t := 2) (Has.t rfl) .nil))) ?_)
    · show n - 1 < n; omega
    · exact isI_eq (by omega)
    · rfl
  · have hc1 := BP.f hc1
    have HA2 := hc1
    refine Tri.exit ?_
    refine At.the ?_
    refine At.the ?_
    refine At.blh ?_
    refine At.thn (hK3 _ _ ?_); clear hK3
    refine Tri.cv (Cv.wk (.cons (t := 0) (Has.t rfl) (.cons (t := 2) (Has.t rfl) (.cons (t := 3) (Has.t rfl) .nil)))) ?_
    refine Tri.seq fun K7 hK7 => ?_
    refine Tri.region ?_
    refine Ops.cv (Cv.grow0K (α := Bool × List Nat) zc) ?_
    refine st (OK1.as (Has.cGr (α := Bool × List Nat))) rfl ?_
    refine nl ?_
    refine At.thn (hK7 _ _ ?_); clear hK7
    refine Tri.seq fun K8 hK8 => ?_
    refine Tri.seq fun K9 hK9 => ?_
    refine Tri.region ?_
    refine st (OK1.mv (Has.t rfl)) rfl ?_
    refine st (OK1.mv (Has.t rfl)) rfl ?_
    refine st (OK1.slHK sl34 ty44 zc_len (Has.t rfl) (Has.t rfl) ⟨by omega, by omega⟩) rfl ?_
    refine st (OK1.len sl34 (Has.t rfl)) rfl ?_
    refine st (OK1.mv (Has.cI 0 rfl)) rfl ?_
    refine nl ?_
    refine At.thn (hK9 _ _ ?_); clear hK9
    refine Tri.block ?_
    refine Tri.loopF [2, 24, 25] (fun (z : { z : Nat × Gr (Bool × List Nat) // z.1 ≤ n }) => match z with | ⟨(i, g), hI⟩ => [(26, isI (i : Int)), (4, isGr g (((vals xs).take i).map nz).length)]) (fun M => fun (z : { z : Nat × Gr (Bool × List Nat) // z.1 ≤ n }) => match z with | ⟨(i, g), hI⟩ => [grMK zc g (((vals xs).take i).map nz)]) (fun (z : { z : Nat × Gr (Bool × List Nat) // z.1 ≤ n }) => match z with | ⟨(i, g), hI⟩ => n - i) (⟨(0, Gr.nil), Nat.zero_le _⟩) (Cv.mem (.cons (t := 26) (Has.t' rfl ?_) (.cons (t := 4) (Has.t' rfl ?_) (.cons (t := 2) (Has.t rfl) (.cons (t := 24) (Has.t rfl) (.cons (t := 25) (Has.t rfl) .nil))))) ?_) ?_
    · rfl
    · rfl
    · rfl
    rintro ⟨⟨i, g⟩, hI⟩ K10 hK10
    refine Tri.cv (Cv.wk (.cons (t := 26) (Has.t rfl) (.cons (t := 4) (Has.t rfl) (.cons (t := 2) (Has.t rfl) (.cons (t := 24) (Has.t rfl) (.cons (t := 25) (Has.t rfl) .nil)))))) ?_
    refine Tri.memEq (M' := [grMK zc g (((vals xs).take i).map nz)]) rfl ?_
    simp only [] at hI
    have htl : (xs.take ((n : Int)).toNat).length = n := by rw [Int.toNat_natCast, List.length_take]; omega
    have hvl := vals_len xs
    have hyl : (((vals xs).take i).map nz).length = i := by rw [List.length_map, List.length_take]; omega
    refine Tri.seq fun K11 hK11 => ?_
    refine Tri.region ?_
    refine st (OK1.ltI (Has.t rfl) (Has.t rfl)) rfl ?_
    refine nl ?_
    refine At.thn (hK11 _ _ ?_); clear hK11
    refine Tri.seq fun K12 hK12 => ?_
    refine Tri.cond (Has.t rfl) (fun hc2 => ?_) (fun hc2 => ?_)
    · have hc2 := BP.t hc2
      refine Tri.skip ?_
      refine At.thn (hK12 _ _ ?_); clear hK12
      refine Tri.seq fun K13 hK13 => ?_
      refine Tri.block ?_
      refine Tri.seq fun K14 hK14 => ?_
      refine Tri.region ?_
      refine st (OK1.ixK sl34 ty44 (Has.t rfl) (Has.t rfl) zc_len ⟨by omega, by omega⟩ (getD_some (d := (false, [])) (by first | omega | (simp only [Int.toNat_natCast, List.length_set]; omega)))) rfl ?_
      refine st (OK1.loadP (Has.t rfl) ty44 rfl (Ss' := [_, _]) rfl) rfl ?_
      refine Ops.alloc [isB false, SlM isU []] zero44 (fun _ _ => ⟨rfl, nilM _ _, trivial⟩) rfl fun b1 => ?_
      refine Ops.store (Has.t rfl) (Has.t rfl) (i := 0) rfl ty44 rfl rfl (Ss' := [_, _]) rfl (M' := [(some _, cellM [_, _]), _]) rfl ?_
      refine nl ?_
      refine At.thn (hK14 _ _ ?_); clear hK14
      refine Tri.region ?_
      refine st (OK1.mv (Has.t rfl)) rfl ?_
      refine st (OK1.fieldAddr (Has.t rfl) fld44_1 ty42) rfl ?_
      refine st (OK1.load1 (Has.t rfl) (i := 0) rfl ty42 rfl) rfl ?_
      refine st (OK1.fieldAddr (Has.t rfl) fld44_0 ty4) rfl ?_
      refine st (OK1.load1 (Has.t rfl) (i := 0) rfl ty4 rfl) rfl ?_
      refine st (OK1.eq (OK1.call (zint_From (by simp only [Int.toNat_natCast]; rw [getD_takeZ (by omega)]; have := hx.raw i; omega)) (.cons (Has.t rfl) (.cons (Has.t rfl) .nil))) ((show isZ _ = Flat (zc (nz (cf (vals xs) i))) from isZ_eq (by rw [cf_vals]; simp only [Int.toNat_natCast]; rw [getD_takeZ (by omega)])))) rfl ?_
      refine st (OK1.buildS [isB false, SlM isU []] sl34 ty44 zero44 (fun _ _ => ⟨rfl, nilM _ _, trivial⟩) rfl rfl (.cons (Has.t rfl) rfl rfl rfl .nil) rfl (S := SlK 2 zc [nz (cf (vals xs) i)]) rfl) rfl ?_
      refine Ops.appendGK (fk := zc) (u := (false, [])) zc_len (by decide) (fun _ => inferInstance) sl34 ty44 zero44 (fun _ _ => ⟨rfl, nilM _ _, trivial⟩) by44 (Has.t rfl) (i := 1) rfl (Has.t rfl) (by rw [hyl]; show i + 1 ≤ _; omega) (by simp) rfl fun gr1 => ?_
      refine Ops.memEq (M' := [_, grMK _ _ _]) rfl ?_
      refine st (OK1.as (Has.t rfl)) rfl ?_
      refine nl ?_
      refine At.bln ?_
      refine At.thn (hK13 _ _ ?_); clear hK13
      refine Tri.region ?_
      refine st (OK1.addI (Has.t rfl) (Has.cI 1 rfl) (by first | omega | assumption) (by first | omega | assumption)) rfl ?_
      refine st (OK1.mv (Has.t rfl)) rfl ?_
      refine nl ?_
      refine At.thn ?_
      refine hK10 (⟨(i + 1, gr1), by show i + 1 ≤ _; omega⟩) _ _ ?_ (Cv.trans (Cv.drop ((.cons _ (.cons_cons _ .slnil)))) (Cv.mem (.cons (t := 26) (Has.t' rfl ?_) (.cons (t := 4) (Has.t' rfl ?_) (.cons (t := 2) (Has.t rfl) (.cons (t := 24) (Has.t rfl) (.cons (t := 25) (Has.t rfl) .nil))))) ?_))
      · show n - (i + 1) < n - i; omega
      · exact isI_eq (by omega)
      · exact isGr_eq (by rw [← take_map_succ _ _ (by omega), List.length_append])
      · exact grMK_eq (take_map_succ _ _ (by omega))
    · have hc2 := BP.f hc2
      refine Tri.exit ?_
      refine At.the ?_
      refine At.the ?_
      refine At.blh ?_
      refine At.thn (hK8 _ _ ?_); clear hK8
      refine Tri.seq fun K15 hK15 => ?_
      refine Tri.cv (Cv.freezeGK (t := 4) (i := 0) (ys := ((vals xs).take i).map nz) zc_len rfl rfl rfl) ?_
      refine Tri.memEq (M' := []) rfl ?_
      refine Tri.cv (Cv.wk (.cons (t := 2) (Has.t rfl) (.cons (t := 24) (Has.t rfl) (.cons (t := 25) (Has.t rfl) (.cons (t := 26) (Has.t rfl) (.cons (t := 4) (Has.t rfl) (.cons (t := 27) (Has.t rfl) .nil))))))) ?_
      refine Tri.region ?_
      refine st (OK1.mv (Has.t rfl)) rfl ?_
      refine st (OK1.as (Has.t rfl)) rfl ?_
      refine nl ?_
      refine At.thn (hK15 _ _ ?_); clear hK15
      refine Tri.cv (Cv.wk (.cons (t := 2) (Has.t rfl) .nil)) ?_
      refine Tri.ret ?_
      refine rt1 (.inl rfl) Try.results98 rfl (.tmp (Has.t' rfl ?_) .nil)
      all_goals (exact isP_eq (by obtain rfl : i = n := (by omega); exact take_norm (by rcases HA2 with h | h; left; omega; right; rw [cf_vals, ← ek]; exact fun e => h ((sgn_eq0 _).2 e)) hz))
end Go.Proofs.Ytgkbekcpmbjbdaa
/- Contracts: sums, differences, multiples of polynomials. -/
namespace Go.Proofs.Ytgkbekcpmbjbdaa
open Go.En Go.RowKit
set_option linter.unusedVariables false
set_option maxRecDepth 10000
open Go.Nt
open Go.Pz
set_option maxHeartbeats 4000000 in
theorem zpoly_both {op : Int → Int → Int} {xs ys : List (Bool × List Nat)} {K L : Nat} (hx : Bd (vals xs) K) (hy : Bd (vals ys) K) (hop : ∀ i, (List.length (words (op (cf (vals xs) i) (cf (vals ys) i)).natAbs)) ≤ L) (hL : L ≤ 4000000000) (h0 : op 0 0 = 0) (hn : xs.length ≤ 1000000) (hm : ys.length ≤ 1000000) : Ctr Try.prog 97 [SlK 2 zc xs, SlK 2 zc ys, isOp Try.prog K op] (isP (both op (vals xs) (vals ys))) := by
  refine Ctr.intro Try.func97 rfl (by kernel_rfl) Try.ntmps97 rfl fun w0 F0 => ?_
  refine Tri.cv (Cv.wk (.cons (t := 0) (Has.t rfl) (.cons (t := 1) (Has.t rfl) (.cons (t := 2) (Has.t rfl) .nil)))) ?_
  refine Tri.fact (Has.lenLt (Has.t (t := 0) rfl)) fun lt0 => ?_
  refine Tri.fact (Has.lenLt (Has.t (t := 1) rfl)) fun lt1 => ?_
  obtain ⟨F, hF⟩ : ∃ F, F = (List.range (max xs.length ys.length)).map fun i => op (cf (vals xs) i) (cf (vals ys) i) := ⟨_, rfl⟩
  have hFl : F.length = max xs.length ys.length := by rw [hF, List.length_map, List.length_range]
  have hFb : Bd F L := fun i => by
    rw [hF, cf_tab]
    split
    · exact hop i
    · rw [Int.natAbs_zero, words_zero]; exact Nat.zero_le _
  refine Tri.seq fun K1 hK1 => ?_
  refine Tri.region ?_
  refine st (OK1.as (Has.cWK (k := 2) (fk := zc))) rfl ?_
  refine nl ?_
  refine At.thn (hK1 _ _ ?_); clear hK1
  refine Tri.seq fun K2 hK2 => ?_
  refine Tri.region ?_
  refine st (OK1.mv (Has.t rfl)) rfl ?_
  refine st (OK1.len sl34 (Has.t rfl)) rfl ?_
  refine st (OK1.mv (Has.t rfl)) rfl ?_
  refine st (OK1.len sl34 (Has.t rfl)) rfl ?_
  refine st (OK1.eq (OK1.maxI (Has.t rfl) (Has.t rfl)) ((show isI _ = isI ((max xs.length ys.length : Nat) : Int) from isI_eq (by omega)))) rfl ?_
  refine Ops.makeK (fk := zc) (u := (false, [])) (n := max xs.length ys.length) (c := max xs.length ys.length) sl34 ty44 zero44 (fun _ _ => ⟨rfl, nilM _ _, trivial⟩) zc_len by44 (Has.t' rfl rfl) (Has.t' rfl rfl) ⟨by omega, by omega⟩ rfl fun b1 => ?_
  refine st (OK1.as (Has.t rfl)) rfl ?_
  refine nl ?_
  refine At.thn (hK2 _ _ ?_); clear hK2
  refine Tri.cv (Cv.wk (.cons (t := 0) (Has.t rfl) (.cons (t := 1) (Has.t rfl) (.cons (t := 2) (Has.t rfl) (.cons (t := 6) (Has.t rfl) (.cons (t := 7) (Has.t rfl) .nil)))))) ?_
  refine Tri.seq fun K3 hK3 => ?_
  refine Tri.seq fun K4 hK4 => ?_
  refine Tri.region ?_
  refine st (OK1.mv (Has.t rfl)) rfl ?_
  refine st (OK1.len sl34 (Has.t rfl)) rfl ?_
  refine st (OK1.mv (Has.cI 0 rfl)) rfl ?_
  refine nl ?_
  refine At.thn (hK4 _ _ ?_); clear hK4
  refine Tri.block ?_
  refine Tri.loopF [0, 1, 2, 6, 7, 16] (fun (z : { i : Nat // i ≤ max xs.length ys.length }) => match z with | ⟨i, hi⟩ => [(17, isI (i : Int))]) (fun M => fun (z : { i : Nat // i ≤ max xs.length ys.length }) => match z with | ⟨i, hi⟩ => [(some b1, cellM ((fill (F.map nz) i (false, [])).flatMap zc))]) (fun (z : { i : Nat // i ≤ max xs.length ys.length }) => match z with | ⟨i, hi⟩ => max xs.length ys.length - i) (⟨0, Nat.zero_le _⟩) (Cv.mem (.cons (t := 17) (Has.t' rfl ?_) (.cons (t := 0) (Has.t rfl) (.cons (t := 1) (Has.t rfl) (.cons (t := 2) (Has.t rfl) (.cons (t := 6) (Has.t rfl) (.cons (t := 7) (Has.t rfl) (.cons (t := 16) (Has.t rfl) .nil))))))) ?_) ?_
  · rfl
  · exact memZ_eq (by rw [fill_zero, List.length_map, hFl])
  rintro ⟨i, hi⟩ K5 hK5
  refine Tri.cv (Cv.wk (.cons (t := 17) (Has.t rfl) (.cons (t := 0) (Has.t rfl) (.cons (t := 1) (Has.t rfl) (.cons (t := 2) (Has.t rfl) (.cons (t := 6) (Has.t rfl) (.cons (t := 7) (Has.t rfl) (.cons (t := 16) (Has.t rfl) .nil)))))))) ?_
  refine Tri.memEq (M' := [(some b1, cellM ((fill (F.map nz) i (false, [])).flatMap zc))]) rfl ?_
  refine Tri.seq fun K6 hK6 => ?_
  refine Tri.region ?_
  refine st (OK1.ltI (Has.t rfl) (Has.t rfl)) rfl ?_
  refine nl ?_
  refine At.thn (hK6 _ _ ?_); clear hK6
  refine Tri.seq fun K7 hK7 => ?_
  refine Tri.cond (Has.t rfl) (fun hc1 => ?_) (fun hc1 => ?_)
  · have hc1 := BP.t hc1
    refine Tri.skip ?_
    refine At.thn (hK7 _ _ ?_); clear hK7
    refine Tri.seq fun K8 hK8 => ?_
    refine Tri.block ?_
    refine Tri.seq fun K9 hK9 => ?_
    refine Tri.region ?_
    refine st (OK1.mv (Has.t rfl)) rfl ?_
    refine st (OK1.as (Has.t rfl)) rfl ?_
    refine nl ?_
    refine At.thn (hK9 _ _ ?_); clear hK9
    refine Tri.region ?_
    refine st (OK1.mv (Has.t rfl)) rfl ?_
    refine st (OK1.mv (Has.t rfl)) rfl ?_
    refine st (OK1.mv (Has.t rfl)) rfl ?_
    refine st (OK1.mv (Has.t rfl)) rfl ?_
    refine st (OK1.mv (Has.t rfl)) rfl ?_
    refine st (OK1.call (zpoly_at) (.cons (Has.t rfl) (.cons (Has.t rfl) .nil))) rfl ?_
    refine st (OK1.mv (Has.t rfl)) rfl ?_
    refine st (OK1.mv (Has.t rfl)) rfl ?_
    refine st (OK1.call (zpoly_at) (.cons (Has.t rfl) (.cons (Has.t rfl) .nil))) rfl ?_
    refine st (OK1.eq (OK1.callV ⟨(xs.getD i (false, []), ys.getD i (false, [])), hx.raw i, hy.raw i⟩ (Has.t rfl) (.cons (Has.t rfl) (.cons (Has.t rfl) .nil))) ((show isZ _ = Flat (zc (nz (op (cf (vals xs) i) (cf (vals ys) i)))) from isZ_eq (by rw [cf_vals, cf_vals])))) rfl ?_
    refine st (OK1.eq (OK1.ixWin sl34 ty44 (Has.t rfl) (Has.t rfl) ⟨by omega, by omega⟩) (isPtr_eq (by first | exact ixo0 | exact ixo2 | exact ixo1))) rfl ?_
    refine Ops.storeK (z := nz (op (cf (vals xs) i) (cf (vals ys) i))) zc_len (Has.t rfl) (Has.t rfl) (i := 0) rfl ty44 (by rw [fill_len _ _ _ (by rw [List.length_map]; omega), List.length_map]; omega) (M' := [(_, _)]) rfl ?_
    refine nl ?_
    refine At.bln ?_
    refine At.thn (hK8 _ _ ?_); clear hK8
    refine Tri.region ?_
    refine st (OK1.addI (Has.t rfl) (Has.cI 1 rfl) (by first | omega | assumption) (by first | omega | assumption)) rfl ?_
    refine st (OK1.mv (Has.t rfl)) rfl ?_
    refine nl ?_
    refine At.thn ?_
    refine hK5 (⟨i + 1, by omega⟩) _ _ ?_ (Cv.mem (.cons (t := 17) (Has.t' rfl ?_) (.cons (t := 0) (Has.t rfl) (.cons (t := 1) (Has.t rfl) (.cons (t := 2) (Has.t rfl) (.cons (t := 6) (Has.t rfl) (.cons (t := 7) (Has.t rfl) (.cons (t := 16) (Has.t rfl) .nil))))))) ?_)
    · show max xs.length ys.length - (i + 1) < max xs.length ys.length - i; omega
    · exact isI_eq (by omega)
    · exact memF_eq (by rw [List.getElem?_map, hF, List.getElem?_map, List.getElem?_range (by omega)]; rfl)
  · have hc1 := BP.f hc1
    refine Tri.exit ?_
    refine At.the ?_
    refine At.the ?_
    refine At.blh ?_
    refine At.thn (hK3 _ _ ?_); clear hK3
    refine Tri.cv (Cv.wk (.cons (t := 6) (Has.t rfl) (.cons (t := 7) (Has.t rfl) .nil))) ?_
    refine Tri.seq fun K10 hK10 => ?_
    refine Tri.cv (Cv.freezeK (t := 7) (i := 0) (ys := F.map nz) zc_len rfl rfl rfl (by rw [fill_len _ _ _ (by rw [List.length_map]; omega), List.length_map]; omega) (fill_done (by rw [List.length_map]; omega) (by rw [List.length_map, hFl]))) ?_
    refine Tri.memEq (M' := []) rfl ?_
    refine Tri.cv (Cv.wk (.cons (t := 6) (Has.t rfl) (.cons (t := 7) (Has.t rfl) .nil))) ?_
    refine Tri.region ?_
    refine st (OK1.mv (Has.t rfl)) rfl ?_
    refine st (OK1.call (zpoly_Norm (K := L) (by rw [vals_nz]; exact hFb) hL (by rw [List.length_map]; omega)) (.cons (Has.t rfl) .nil)) rfl ?_
    refine st (OK1.as (Has.t rfl)) rfl ?_
    refine nl ?_
    refine At.thn (hK10 _ _ ?_); clear hK10
    refine Tri.ret ?_
    refine rt1 (.inl rfl) Try.results97 rfl (.tmp (Has.t' rfl ?_) .nil)
    all_goals (exact isP_eq (by rw [vals_nz, hF]; unfold both; rw [vals_len, vals_len]))
set_option maxHeartbeats 4000000 in
theorem zpoly_Add {xs ys : List (Bool × List Nat)} {K : Nat} (hx : Bd (vals xs) K) (hy : Bd (vals ys) K) (hK : K ≤ 3000000000) (hn : xs.length ≤ 1000000) (hm : ys.length ≤ 1000000) : Ctr Try.prog 42 [SlK 2 zc xs, SlK 2 zc ys] (isP (padd (vals xs) (vals ys))) := by
  refine Ctr.intro Try.func42 rfl (by kernel_rfl) Try.ntmps42 rfl fun w0 F0 => ?_
  refine Tri.cv (Cv.wk (.cons (t := 0) (Has.t rfl) (.cons (t := 1) (Has.t rfl) .nil))) ?_
  refine Tri.fact (Has.lenLt (Has.t (t := 0) rfl)) fun lt0 => ?_
  refine Tri.fact (Has.lenLt (Has.t (t := 1) rfl)) fun lt1 => ?_
  refine Tri.seq fun K1 hK1 => ?_
  refine Tri.region ?_
  refine st (OK1.as (Has.cWK (k := 2) (fk := zc))) rfl ?_
  refine nl ?_
  refine At.thn (hK1 _ _ ?_); clear hK1
  refine Tri.seq fun K2 hK2 => ?_
  refine Tri.region ?_
  refine st (OK1.mv (Has.t rfl)) rfl ?_
  refine st (OK1.mv (Has.t rfl)) rfl ?_
  refine st (OK1.call (zpoly_both (op := fun x y => x + y) (L := K + 1) hx hy (fun i => by have := nz_add (cf (vals xs) i) (cf (vals ys) i); have := hx i; have := hy i; show (List.length (words (cf (vals xs) i + cf (vals ys) i).natAbs)) ≤ K + 1; omega) (by omega) (by rfl) hn hm) (.cons (Has.t rfl) (.cons (Has.t rfl) (.cons (Has.fn (fun i => zint_Add (by have := i.2.1; omega) (by have := i.2.2; omega))) .nil)))) rfl ?_
  refine st (OK1.as (Has.t rfl)) rfl ?_
  refine nl ?_
  refine At.thn (hK2 _ _ ?_); clear hK2
  refine Tri.cv (Cv.wk (.cons (t := 4) (Has.t rfl) .nil)) ?_
  refine Tri.ret ?_
  refine rt1 (.inl rfl) Try.results42 rfl (.tmp (Has.t' rfl ?_) .nil)
  all_goals (rfl)
set_option maxHeartbeats 4000000 in
theorem zpoly_Sub {xs ys : List (Bool × List Nat)} {K : Nat} (hx : Bd (vals xs) K) (hy : Bd (vals ys) K) (hK : K ≤ 3000000000) (hn : xs.length ≤ 1000000) (hm : ys.length ≤ 1000000) : Ctr Try.prog 105 [SlK 2 zc xs, SlK 2 zc ys] (isP (psub (vals xs) (vals ys))) := by
  refine Ctr.intro Try.func105 rfl (by kernel_rfl) Try.ntmps105 rfl fun w0 F0 => ?_
  refine Tri.cv (Cv.wk (.cons (t := 0) (Has.t rfl) (.cons (t := 1) (Has.t rfl) .nil))) ?_
  refine Tri.fact (Has.lenLt (Has.t (t := 0) rfl)) fun lt0 => ?_
  refine Tri.fact (Has.lenLt (Has.t (t := 1) rfl)) fun lt1 => ?_
  refine Tri.seq fun K1 hK1 => ?_
  refine Tri.region ?_
  refine st (OK1.as (Has.cWK (k := 2) (fk := zc))) rfl ?_
  refine nl ?_
  refine At.thn (hK1 _ _ ?_); clear hK1
  refine Tri.seq fun K2 hK2 => ?_
  refine Tri.region ?_
  refine st (OK1.mv (Has.t rfl)) rfl ?_
  refine st (OK1.mv (Has.t rfl)) rfl ?_
  refine st (OK1.call (zpoly_both (op := fun x y => x - y) (L := K + 1) hx hy (fun i => by have := nz_sub (cf (vals xs) i) (cf (vals ys) i); have := hx i; have := hy i; show (List.length (words (cf (vals xs) i - cf (vals ys) i).natAbs)) ≤ K + 1; omega) (by omega) (by rfl) hn hm) (.cons (Has.t rfl) (.cons (Has.t rfl) (.cons (Has.fn (fun i => zint_Sub (by have := i.2.1; omega) (by have := i.2.2; omega))) .nil)))) rfl ?_
  refine st (OK1.as (Has.t rfl)) rfl ?_
  refine nl ?_
  refine At.thn (hK2 _ _ ?_); clear hK2
  refine Tri.cv (Cv.wk (.cons (t := 4) (Has.t rfl) .nil)) ?_
  refine Tri.ret ?_
  refine rt1 (.inl rfl) Try.results105 rfl (.tmp (Has.t' rfl ?_) .nil)
  all_goals (rfl)
set_option maxHeartbeats 4000000 in
theorem zpoly_Scale {xs : List (Bool × List Nat)} {m : Bool} {ys : List Nat} {K L : Nat} (hx : Bd (vals xs) K) (hc : (List.length (words (val ys))) ≤ L) (hK : K + L ≤ 1000000000) (hn : xs.length ≤ 1000000) : Ctr Try.prog 134 [SlK 2 zc xs, Flat [isB m, isWords ys]] (isP (pscale (vals xs) (zv m ys))) := by
  refine Ctr.intro Try.func134 rfl (by kernel_rfl) Try.ntmps134 rfl fun w0 F0 => ?_
  refine Tri.cv (Cv.wk (.cons (t := 0) (Has.t rfl) (.cons (t := 1) (Has.t rfl) .nil))) ?_
  refine Tri.fact (Has.lenLt (Has.t (t := 0) rfl)) fun lt0 => ?_
  refine Tri.fact (Has.okZ (Has.t (t := 1) rfl)) fun okz1 => ?_
  obtain ⟨F, hF⟩ : ∃ F, F = (vals xs).map fun x => x * zv m ys := ⟨_, rfl⟩
  have hFl : F.length = xs.length := by rw [hF, List.length_map, vals_len]
  have hFb : Bd F (K + L) := fun i => by
    rw [hF, cf_map]
    have := nz_mul (cf (vals xs) i) (zv m ys)
    have := hx i
    have e := zv_nw m ys
    omega
  refine Tri.seq fun K1 hK1 => ?_
  refine Tri.region ?_
  refine Ops.box (Has.t rfl) rfl fun b1 => ?_
  refine st (OK1.as (Has.cWK (k := 2) (fk := zc))) rfl ?_
  refine nl ?_
  refine At.thn (hK1 _ _ ?_); clear hK1
  refine Tri.seq fun K2 hK2 => ?_
  refine Tri.region ?_
  refine st (OK1.mv (Has.t rfl)) rfl ?_
  refine st (OK1.len sl34 (Has.t rfl)) rfl ?_
  refine Ops.makeK (fk := zc) (u := (false, [])) (n := xs.length) (c := xs.length) sl34 ty44 zero44 (fun _ _ => ⟨rfl, nilM _ _, trivial⟩) zc_len by44 (Has.t' rfl rfl) (Has.t' rfl rfl) ⟨by omega, by omega⟩ rfl fun b2 => ?_
  refine st (OK1.as (Has.t rfl)) rfl ?_
  refine nl ?_
  refine At.thn (hK2 _ _ ?_); clear hK2
  refine Tri.seq fun K3 hK3 => ?_
  refine Tri.seq fun K4 hK4 => ?_
  refine Tri.region ?_
  refine st (OK1.mv (Has.t rfl)) rfl ?_
  refine st (OK1.len sl34 (Has.t rfl)) rfl ?_
  refine st (OK1.mv (Has.cI 0 rfl)) rfl ?_
  refine nl ?_
  refine At.thn (hK4 _ _ ?_); clear hK4
  refine Tri.cv (Cv.wk (.cons (t := 3) (Has.t rfl) (.cons (t := 4) (Has.t rfl) (.cons (t := 5) (Has.t rfl) (.cons (t := 11) (Has.t rfl) (.cons (t := 12) (Has.t rfl) (.cons (t := 13) (Has.t rfl) .nil))))))) ?_
  refine Tri.block ?_
  refine Tri.loopF [3, 4, 5, 11, 12] (fun (z : { i : Nat // i ≤ xs.length }) => match z with | ⟨i, hi⟩ => [(13, isI (i : Int))]) (fun M => fun (z : { i : Nat // i ≤ xs.length }) => match z with | ⟨i, hi⟩ => [(some b2, cellM ((fill (F.map nz) i (false, [])).flatMap zc)), (some b1, cellM [isB m, SlM isU ys])]) (fun (z : { i : Nat // i ≤ xs.length }) => match z with | ⟨i, hi⟩ => xs.length - i) (⟨0, Nat.zero_le _⟩) (Cv.mem (.cons (t := 13) (Has.t' rfl ?_) (.cons (t := 3) (Has.t rfl) (.cons (t := 4) (Has.t rfl) (.cons (t := 5) (Has.t rfl) (.cons (t := 11) (Has.t rfl) (.cons (t := 12) (Has.t rfl) .nil)))))) ?_) ?_
  · rfl
  · exact memZ_eq (by rw [fill_zero, List.length_map, hFl])
  rintro ⟨i, hi⟩ K5 hK5
  refine Tri.cv (Cv.wk (.cons (t := 13) (Has.t rfl) (.cons (t := 3) (Has.t rfl) (.cons (t := 4) (Has.t rfl) (.cons (t := 5) (Has.t rfl) (.cons (t := 11) (Has.t rfl) (.cons (t := 12) (Has.t rfl) .nil))))))) ?_
  refine Tri.memEq (M' := [(some b2, cellM ((fill (F.map nz) i (false, [])).flatMap zc)), (some b1, cellM [isB m, SlM isU ys])]) rfl ?_
  refine Tri.seq fun K6 hK6 => ?_
  refine Tri.region ?_
  refine st (OK1.ltI (Has.t rfl) (Has.t rfl)) rfl ?_
  refine nl ?_
  refine At.thn (hK6 _ _ ?_); clear hK6
  refine Tri.seq fun K7 hK7 => ?_
  refine Tri.cond (Has.t rfl) (fun hc1 => ?_) (fun hc1 => ?_)
  · have hc1 := BP.t hc1
    refine Tri.skip ?_
    refine At.thn (hK7 _ _ ?_); clear hK7
    refine Tri.seq fun K8 hK8 => ?_
    refine Tri.block ?_
    refine Tri.seq fun K9 hK9 => ?_
    refine Tri.region ?_
    refine st (OK1.mv (Has.t rfl)) rfl ?_
    refine st (OK1.ixK sl34 ty44 (Has.t rfl) (Has.t rfl) zc_len ⟨by omega, by omega⟩ (getD_some (d := (false, [])) (by first | omega | (simp only [Int.toNat_natCast, List.length_set]; omega)))) rfl ?_
    refine st (OK1.loadP (Has.t rfl) ty44 rfl (Ss' := [_, _]) rfl) rfl ?_
    refine Ops.alloc [isB false, SlM isU []] zero44 (fun _ _ => ⟨rfl, nilM _ _, trivial⟩) rfl fun b3 => ?_
    refine st (OK1.as (Has.t rfl)) rfl ?_
    refine Ops.store (Has.t rfl) (Has.t rfl) (i := 0) rfl ty44 rfl rfl (Ss' := [_, _]) rfl (M' := [(some _, cellM [_, _]), _, _]) rfl ?_
    refine nl ?_
    refine At.thn (hK9 _ _ ?_); clear hK9
    refine Tri.region ?_
    refine st (OK1.mv (Has.t rfl)) rfl ?_
    refine st (OK1.mv (Has.t rfl)) rfl ?_
    refine st (OK1.load (Has.t rfl) (i := 0) rfl ty44 rfl (Ss' := [_, _]) rfl) rfl ?_
    refine st (OK1.load (Has.t rfl) (i := 2) rfl ty44 rfl (Ss' := [_, _]) rfl) rfl ?_
    refine st (OK1.eq (OK1.call (zint_Mul (by have := hx.raw ((i : Int)).toNat; omega) (by have := hx.raw ((i : Int)).toNat; omega)) (.cons (Has.t rfl) (.cons (Has.t rfl) .nil))) ((show isZ _ = Flat (zc (nz (cf (vals xs) i * zv m ys))) from isZ_eq (by rw [cf_vals]; rfl)))) rfl ?_
    refine st (OK1.eq (OK1.ixWin sl34 ty44 (Has.t rfl) (Has.t rfl) ⟨by omega, by omega⟩) (isPtr_eq (by first | exact ixo0 | exact ixo2 | exact ixo1))) rfl ?_
    refine Ops.storeK (z := nz (cf (vals xs) i * zv m ys)) zc_len (Has.t rfl) (Has.t rfl) (i := 1) rfl ty44 (by rw [fill_len _ _ _ (by rw [List.length_map]; omega), List.length_map]; omega) (M' := [_, (_, _), _]) rfl ?_
    refine nl ?_
    refine At.bln ?_
    refine At.thn (hK8 _ _ ?_); clear hK8
    refine Tri.region ?_
    refine st (OK1.addI (Has.t rfl) (Has.cI 1 rfl) (by first | omega | assumption) (by first | omega | assumption)) rfl ?_
    refine st (OK1.mv (Has.t rfl)) rfl ?_
    refine nl ?_
    refine At.thn ?_
    refine hK5 (⟨i + 1, by omega⟩) _ _ ?_ (Cv.trans (Cv.drop ((.cons _ (.cons_cons _ (.cons_cons _ .slnil))))) (Cv.mem (.cons (t := 13) (Has.t' rfl ?_) (.cons (t := 3) (Has.t rfl) (.cons (t := 4) (Has.t rfl) (.cons (t := 5) (Has.t rfl) (.cons (t := 11) (Has.t rfl) (.cons (t := 12) (Has.t rfl) .nil)))))) ?_))
    · show xs.length - (i + 1) < xs.length - i; omega
    · exact isI_eq (by omega)
    · exact memF_eq (by rw [List.getElem?_map, hF, List.getElem?_map, getElem_cf (by rw [vals_len]; omega)]; rfl)
  · have hc1 := BP.f hc1
    refine Tri.exit ?_
    refine At.the ?_
    refine At.the ?_
    refine At.blh ?_
    refine At.thn (hK3 _ _ ?_); clear hK3
    refine Tri.cv (Cv.wk (.cons (t := 4) (Has.t rfl) (.cons (t := 5) (Has.t rfl) .nil))) ?_
    refine Tri.seq fun K10 hK10 => ?_
    refine Tri.cv (Cv.freezeK (t := 5) (i := 0) (ys := F.map nz) zc_len rfl rfl rfl (by rw [fill_len _ _ _ (by rw [List.length_map]; omega), List.length_map]; omega) (fill_done (by rw [List.length_map]; omega) (by rw [List.length_map, hFl]))) ?_
    refine Tri.memEq (M' := [_]) rfl ?_
    refine Tri.cv (Cv.wk (.cons (t := 4) (Has.t rfl) (.cons (t := 5) (Has.t rfl) .nil))) ?_
    refine Tri.region ?_
    refine st (OK1.mv (Has.t rfl)) rfl ?_
    refine st (OK1.call (zpoly_Norm (K := K + L) (by rw [vals_nz]; exact hFb) (by omega) (by rw [List.length_map]; omega)) (.cons (Has.t rfl) .nil)) rfl ?_
    refine st (OK1.as (Has.t rfl)) rfl ?_
    refine nl ?_
    refine At.thn (hK10 _ _ ?_); clear hK10
    refine Tri.ret ?_
    refine rt1 (.inl rfl) Try.results134 rfl (.tmp (Has.t' rfl ?_) .nil)
    all_goals (exact isP_eq (by rw [vals_nz, hF]; rfl))
end Go.Proofs.Ytgkbekcpmbjbdaa
/- Plain numbers: binomials, Fermat's little theorem, primes by trial division; the fields' functions. No program here. -/
namespace Go.Gf
/-- binomials -/
def ch : Nat → Nat → Nat
  | _, 0 => 1
  | 0, _ + 1 => 0
  | n + 1, k + 1 => ch n k + ch n (k + 1)
/-- the first m terms of (a+1)^n -/
def S (a n : Nat) : Nat → Nat
  | 0 => 0
  | m + 1 => S a n m + ch n m * a ^ m
def Prime (p : Nat) : Prop := 2 ≤ p ∧ ∀ d, d ∣ p → d = 1 ∨ d = p
/-- the prime of a field's number -/
def fp (q : Nat) : Nat := if q = 0 then 2 else q
theorem fp_pos (q : Nat) : 0 < fp q := by unfold fp; split <;> omega
theorem fp_lt {q : Nat} (h : q < 4294967296) : fp q < 4294967296 := by unfold fp; split <;> omega
theorem fp_of {q : Nat} (h : 0 < q) : fp q = q := by unfold fp; rw [if_neg (by omega)]
/-- no divisor below d but 1 -/
def NoDiv (p d : Nat) : Prop := ∀ e, 2 ≤ e → e < d → ¬ e ∣ p
theorem prime_of_noDiv {p d : Nat} (hp : 2 ≤ p) (h : NoDiv p d) (hd : p < d * d) : Prime p := by
  refine ⟨hp, fun e ⟨f, hf⟩ => ?_⟩
  rcases Nat.lt_or_ge 1 e with h1 | h1
  · rcases Nat.lt_or_ge 1 f with h2 | h2
    · exfalso
      rcases Nat.lt_or_ge e d with h3 | h3
      · exact h e h1 h3 ⟨f, hf⟩
      · rcases Nat.lt_or_ge f d with h4 | h4
        · exact h f h2 h4 ⟨e, by rw [hf, Nat.mul_comm]⟩
        · have := Nat.mul_le_mul h3 h4; omega
    · right
      have : f = 1 := by rcases Nat.lt_or_ge f 1 with h5 | h5
                         · have : f = 0 := by omega
                           subst this; omega
                         · omega
      subst this; omega
  · left
    rcases Nat.lt_or_ge e 1 with h5 | h5
    · have : e = 0 := by omega
      subst this; omega
    · omega
theorem noDiv_step {p d : Nat} (hodd : p % 2 = 1) (hd : d % 2 = 1) (h : NoDiv p d) (h1 : p % d ≠ 0) : NoDiv p (d + 2) := by
  intro e he hlt hdv
  rcases Nat.lt_or_ge e d with h2 | h2
  · exact h e he h2 hdv
  · rcases Nat.lt_or_ge d e with h3 | h3
    · have : e = d + 1 := by omega
      subst this
      have h4 : 2 ∣ p := Nat.dvd_trans ⟨(d + 1) / 2, by omega⟩ hdv
      omega
    · have : e = d := by omega
      subst this
      exact h1 (Nat.mod_eq_zero_of_dvd hdv)
theorem prime_two : Prime 2 := ⟨by omega, fun d hd => by have := Nat.le_of_dvd (by omega) hd; rcases Nat.eq_zero_or_pos d with h | h; subst h; simp at hd; omega⟩
theorem prime_odd {p : Nat} (hp : Prime p) (h : p ≠ 2) : p % 2 = 1 := by
  rcases Nat.mod_two_eq_zero_or_one p with h1 | h1
  · rcases hp.2 2 (Nat.dvd_of_mod_eq_zero h1) with h2 | h2 <;> omega
  · exact h1
theorem not_prime_of_div {p d : Nat} (hd : 2 ≤ d) (h : d * d ≤ p) (h0 : p % d = 0) : ¬ Prime p := by
  intro hp
  have h3 : d < p := Nat.lt_of_lt_of_le (by have := Nat.mul_le_mul_left d hd; omega) h
  rcases hp.2 d (Nat.dvd_of_mod_eq_zero h0) with e | e <;> omega
end Go.Gf
namespace Go.Gf
def pr (p : Nat) : Bool := decide (2 ≤ p ∧ p < 2147483648 ∧ ∀ e, e < p → 2 ≤ e → ¬ e ∣ p)
theorem pr_iff {p : Nat} : pr p = true ↔ Prime p ∧ p < 2147483648 := by
  unfold pr
  rw [decide_eq_true_eq]
  constructor
  · rintro ⟨h1, h2, h3⟩
    refine ⟨⟨h1, fun d hd => ?_⟩, h2⟩
    rcases Nat.lt_or_ge d p with h | h
    · rcases Nat.lt_or_ge d 2 with h4 | h4
      · rcases Nat.eq_zero_or_pos d with h5 | h5
        · subst h5; simp at hd; omega
        · left; omega
      · exact absurd hd (h3 d h h4)
    · right; have := Nat.le_of_dvd (by omega) hd; omega
  · rintro ⟨hp, h2⟩
    refine ⟨hp.1, h2, fun e h3 h4 hd => ?_⟩
    rcases hp.2 e hd with h | h <;> omega
theorem pr_false {p : Nat} (h : ¬ Prime p ∨ 2147483648 ≤ p) : pr p = false := by
  cases hb : pr p with
  | false => rfl
  | true => have := pr_iff.1 hb; rcases h with h | h; exact absurd this.1 h; omega
theorem pr_small {p : Nat} (h : (p < 2 ∨ 2147483648 ≤ p) ∨ p % 2 = 0) : decide (p = 2) = pr p := by
  by_cases e : p = 2
  · subst e; rw [pr_iff.2 ⟨prime_two, by omega⟩]; rfl
  · rw [pr_false]
    · simp [e]
    · rcases h with (h | h) | h
      · exact .inl (fun hp => by have := hp.1; omega)
      · exact .inr h
      · exact .inl (fun hp => by have := prime_odd hp e; omega)
theorem sq_lt {d p : Nat} (h : d * d ≤ p) (hp : p < 2147483648) : d < 46342 := by
  apply Classical.byContradiction; intro h1
  have := Nat.mul_le_mul (Nat.le_of_not_lt h1) (Nat.le_of_not_lt h1); omega
theorem noDiv_three {p : Nat} (h : p % 2 ≠ 0) : NoDiv p 3 := fun e h1 h2 hd => by
  have : e = 2 := by omega
  subst this; have := Nat.mod_eq_zero_of_dvd hd; omega
/-- no divisor from lo on, 2^k numbers -/
def chk (p : Nat) : Nat → Nat → Bool
  | lo, 0 => !Nat.beq (p % lo) 0
  | lo, k + 1 => chk p lo k && chk p (lo + 2 ^ k) k
theorem chk_spec {p : Nat} : ∀ (k lo : Nat), chk p lo k = true → ∀ e, lo ≤ e → e < lo + 2 ^ k → ¬ e ∣ p
  | 0, lo, h, e, h1, h2 => fun hd => by
    have : e = lo := by simp at h2; omega
    subst this
    have := Nat.mod_eq_zero_of_dvd hd
    simp [chk, this] at h
  | k + 1, lo, h, e, h1, h2 => by
    simp only [chk, Bool.and_eq_true] at h
    rcases Nat.lt_or_ge e (lo + 2 ^ k) with h3 | h3
    · exact chk_spec k lo h.1 e h1 h3
    · exact chk_spec k _ h.2 e h3 (by rw [Nat.pow_succ] at h2; omega)
theorem prime_chk {p k : Nat} (hp : 2 ≤ p) (h : chk p 2 k = true) (hk : p < (2 + 2 ^ k) * (2 + 2 ^ k)) : Prime p :=
  prime_of_noDiv hp (fun e h1 h2 => chk_spec k 2 h e h1 h2) hk
def ptab (k : Nat) : Nat := [2, 3, 5, 7, 11, 13, 101, 65537, 1000003, 1073741827, 2147483629, 2147483647].getD k 2
theorem ptab_le {k : Nat} : ptab k < 2147483648 := by
  unfold ptab
  match k with
  | 0 | 1 | 2 | 3 | 4 | 5 | 6 | 7 | 8 | 9 | 10 | 11 => decide
  | k + 12 => simp
theorem ptab_prime {k : Nat} : Prime (ptab k) := by
  unfold ptab
  match k with
  | 0 => exact prime_two
  | 1 => exact prime_chk (p := 3) (k := 0) (by omega) (by decide) (by decide)
  | 2 => exact prime_chk (p := 5) (k := 0) (by omega) (by decide) (by decide)
  | 3 => exact prime_chk (p := 7) (k := 0) (by omega) (by decide) (by decide)
  | 4 => exact prime_chk (p := 11) (k := 1) (by omega) (by decide) (by decide)
  | 5 => exact prime_chk (p := 13) (k := 1) (by omega) (by decide) (by decide)
  | 6 => exact prime_chk (p := 101) (k := 4) (by omega) (by decide) (by decide)
  | 7 => exact prime_chk (p := 65537) (k := 9) (by omega) (by decide +kernel) (by decide)
  | 8 => exact prime_chk (p := 1000003) (k := 10) (by omega) (by decide +kernel) (by decide)
  | 9 => exact prime_chk (p := 1073741827) (k := 15) (by omega) (by decide +kernel) (by decide)
  | 10 => exact prime_chk (p := 2147483629) (k := 16) (by omega) (by decide +kernel) (by decide)
  | 11 => exact prime_chk (p := 2147483647) (k := 16) (by omega) (by decide +kernel) (by decide)
  | k + 12 => exact prime_two
theorem ptab_pr (k : Nat) : pr (ptab k) = true := pr_iff.2 ⟨ptab_prime, ptab_le⟩
theorem ptab_two (k : Nat) : 2 ≤ ptab k := ptab_prime.1
theorem ptab_fp (k : Nat) : fp (ptab k) = ptab k := fp_of (by have := ptab_two k; omega)
end Go.Gf
namespace Go.Gf
theorem ptab_get (n : Nat) {β : Type} (f : Nat → β) : ([f 2, f 3, f 5, f 7, f 11, f 13, f 101, f 65537, f 1000003, f 1073741827, f 2147483629, f 2147483647])[(((n : Int) % 12)).toNat]? = some (f (ptab (n % 12))) := by
  have e : ((n : Int) % 12).toNat = n % 12 := by omega
  rw [e]
  have h : n % 12 < 12 := Nat.mod_lt _ (by omega)
  generalize n % 12 = k at *
  match k, h with
  | 0, _ | 1, _ | 2, _ | 3, _ | 4, _ | 5, _ | 6, _ | 7, _ | 8, _ | 9, _ | 10, _ | 11, _ => rfl
theorem half (y : Nat) {k : Nat} (hk : 0 < k) : y / 2 ^ (k - 1) = 2 * (y / 2 ^ k) + y / 2 ^ (k - 1) % 2 := by
  have : y / 2 ^ k = y / 2 ^ (k - 1) / 2 := by
    rw [Nat.div_div_eq_div_mul, ← Nat.pow_succ]; congr 2; omega
  omega
theorem mul_step0 {x y p k o : Nat} (hk : 0 < k) (h : o = x * (y / 2 ^ k) % p) (hb : ¬ y / 2 ^ (k - 1) % 2 = 1) : 2 * o % p = x * (y / 2 ^ (k - 1)) % p := by
  have e := half y hk
  rw [h, Nat.mul_mod_mod]
  congr 1
  rw [e, show y / 2 ^ (k - 1) % 2 = 0 by omega]; grind
end Go.Gf
namespace Go.Gf
end Go.Gf
namespace Go.Gf
end Go.Gf
/- Polynomials over the whole numbers: contents; the content of a product. No program here. -/
namespace Go.Pz
open Go.Gf
def cont (l : List Int) : Nat := l.foldl (fun g x => Nat.gcd g x.natAbs) 0
theorem dvd_fold (d : Nat) : ∀ (l : List Int) (g : Nat), d ∣ l.foldl (fun g x => Nat.gcd g x.natAbs) g ↔ d ∣ g ∧ ∀ x ∈ l, d ∣ x.natAbs
  | [], g => by simp
  | a :: l, g => by
    rw [List.foldl_cons, dvd_fold d l, Nat.dvd_gcd_iff]
    simp only [List.mem_cons, forall_eq_or_imp]
    exact ⟨fun h => ⟨h.1.1, h.1.2, h.2⟩, fun h => ⟨⟨h.1, h.2.1⟩, h.2.2⟩⟩
theorem dvd_cont {d : Nat} {l : List Int} : d ∣ cont l ↔ ∀ i, d ∣ (cf l i).natAbs := by
  unfold cont
  rw [dvd_fold]
  constructor
  · rintro ⟨_, h⟩ i
    unfold cf
    rw [List.getD]
    cases e : l[i]? with
    | none => exact Nat.dvd_zero d
    | some x => exact h x (List.mem_of_getElem? e)
  · intro h
    refine ⟨Nat.dvd_zero d, fun x hx => ?_⟩
    obtain ⟨i, hi, rfl⟩ := List.mem_iff_getElem.1 hx
    have := h i
    unfold cf at this
    rwa [List.getD, List.getElem?_eq_getElem hi] at this
theorem cont_dvd (l : List Int) (i : Nat) : (cont l : Int) ∣ cf l i := by
  have := dvd_cont.1 (Nat.dvd_refl (cont l)) i
  exact Int.ofNat_dvd_left.2 this
theorem cont_zero {l : List Int} : cont l = 0 ↔ ∀ i, cf l i = 0 := by
  constructor
  · intro h i
    have := dvd_cont.1 (Nat.dvd_refl (cont l)) i
    rw [h] at this
    have := Nat.zero_dvd.1 this
    omega
  · intro h
    exact Nat.zero_dvd.1 (dvd_cont.2 fun i => by rw [h i]; exact Nat.dvd_zero 0)
end Go.Pz
/- Polynomials over the whole numbers: what the loops keep. No program here, but the numbers' cells. -/
namespace Go.Pz
open Go.Nt Go.En
theorem both_len (op : Int → Int → Int) (a b : List Int) : (both op a b).length ≤ max a.length b.length := by
  unfold both; exact Nat.le_trans (norm_len _) (by rw [List.length_map, List.length_range]; exact Nat.le_refl _)
theorem scale_len (a : List Int) (c : Int) : (pscale a c).length ≤ a.length := by
  unfold pscale; exact Nat.le_trans (norm_len _) (by rw [List.length_map]; exact Nat.le_refl _)
theorem shift_len (a : List Int) (n : Nat) : (pshift a n).length = n + a.length := by unfold pshift; rw [List.length_append, List.length_replicate]
theorem both_norm (op : Int → Int → Int) (a b : List Int) : pnorm (both op a b) = both op a b := norm_norm _
theorem zv_nz (z : Int) : zv (nz z).1 (nz z).2 = z := zv_nf z
theorem Bd.one {z : Int} {K : Nat} (h : (List.length (words z.natAbs)) ≤ K) : Bd [z] K := fun i => by
  cases i with
  | zero => exact h
  | succ i => rw [cf_succ, cf_nil, Int.natAbs_zero, words_zero]; exact Nat.zero_le _
theorem Bd.cons {z : Int} {l : List Int} {K : Nat} (h : (List.length (words z.natAbs)) ≤ K) (k : Bd l K) : Bd (z :: l) K := fun i => by
  cases i with
  | zero => exact h
  | succ i => exact k i
theorem step_mul (K m0 n L : Nat) (h : n + 1 ≤ m0) : K + (m0 - n) * (L + 1) = K + (m0 - (n + 1)) * (L + 1) + L + 1 := by
  have e : m0 - n = (m0 - (n + 1)) + 1 := by omega
  rw [e, Nat.succ_mul]; omega
/-- what the rounds of a division keep -/
structure PsI (lead : Int) (B A : List Int) (K L m0 m : Nat) (q a : List Int) : Prop where
  le : m ≤ m0
  go : pseudoGo lead B m q a = pseudoGo lead B m0 [] A
  bq : Bd q (K + (m0 - m) * (L + 1))
  ba : Bd a (K + (m0 - m) * (L + 1))
  lq : q.length ≤ m0
  la : a.length ≤ A.length
  nq : pnorm q = q
  na : pnorm a = a
theorem PsI.start {lead : Int} {B A : List Int} {K L m0 : Nat} (hA : Bd A K) (hn : pnorm A = A) : PsI lead B A K L m0 m0 [] A :=
  ⟨Nat.le_refl _, rfl, Bd.nil _, hA.mono (by omega), Nat.zero_le _, Nat.le_refl _, rfl, hn⟩
theorem PsI.step {lead : Int} {B A : List Int} {K L m0 n : Nat} {q a : List Int} (p : PsI lead B A K L m0 (n + 1) q a) (hl : (List.length (words lead.natAbs)) ≤ L) (hB : Bd B L) (hm : m0 + B.length ≤ A.length + 1) :
    PsI lead B A K L m0 n (padd (pscale q lead) (pshift [cf a (n + B.length - 1)] n)) (psub (pscale a lead) (pshift (pscale B (cf a (n + B.length - 1))) n)) := by
  have e := step_mul K m0 n L p.le
  have hs := p.ba (n + B.length - 1)
  refine ⟨Nat.le_of_succ_le p.le, p.go, ?_, ?_, ?_, ?_, both_norm _ _ _, both_norm _ _ _⟩
  · rw [e]
    exact Bd.add (p.bq.scale hl) (((Bd.one hs).shift n).mono (by omega))
  · rw [e]
    exact Bd.sub (p.ba.scale hl) (((hB.scale hs).shift n).mono (by omega))
  · have h1 := both_len (fun x y => x + y) (pscale q lead) (pshift [cf a (n + B.length - 1)] n)
    have h2 := scale_len q lead
    have h3 := shift_len [cf a (n + B.length - 1)] n
    have h4 := p.le
    have h5 := p.lq
    simp only [List.length_cons, List.length_nil] at h3
    exact Nat.le_trans h1 (by omega)
  · have h1 := both_len (fun x y => x - y) (pscale a lead) (pshift (pscale B (cf a (n + B.length - 1))) n)
    have h2 := scale_len a lead
    have h3 := shift_len (pscale B (cf a (n + B.length - 1))) n
    have h4 := scale_len B (cf a (n + B.length - 1))
    have h5 := p.la
    have h6 := p.le
    exact Nat.le_trans h1 (by omega)
theorem PsI.bnd {lead : Int} {B A : List Int} {K L m0 m : Nat} {q a : List Int} (p : PsI lead B A K L m0 m q a) : Bd q (K + m0 * (L + 1)) ∧ Bd a (K + m0 * (L + 1)) := by
  have h : (m0 - m) * (L + 1) ≤ m0 * (L + 1) := Nat.mul_le_mul_right _ (Nat.sub_le _ _)
  exact ⟨p.bq.mono (by omega), p.ba.mono (by omega)⟩
/-- quotient and rest, where they are told -/
def psd (a b : List Int) : List Int × List Int := if pnorm b = [] then ([], []) else pseudo a b
theorem PsI.done {a b : List Int} {K L m0 : Nat} {q r : List Int} (hb : pnorm b ≠ []) (hm : m0 = (pnorm a).length + 1 - (pnorm b).length) (p : PsI (cf (pnorm b) ((pnorm b).length - 1)) (pnorm b) (pnorm a) K L m0 0 q r) : pnorm q = (psd a b).1 ∧ r = (psd a b).2 := by
  have h := p.go
  unfold psd
  rw [if_neg hb]
  unfold pseudo
  rw [← hm, ← h, p.nq]
  exact ⟨rfl, rfl⟩
theorem pseudoGo_norm {lead : Int} {b : List Int} : ∀ (n : Nat) (q a : List Int), pnorm q = q → pnorm a = a → pnorm (pseudoGo lead b n q a).1 = (pseudoGo lead b n q a).1 ∧ pnorm (pseudoGo lead b n q a).2 = (pseudoGo lead b n q a).2
  | 0, q, a, h1, h2 => ⟨h1, h2⟩
  | n + 1, q, a, _, _ => pseudoGo_norm n _ _ (both_norm _ _ _) (both_norm _ _ _)
theorem psd_norm (a b : List Int) : pnorm (psd a b).1 = (psd a b).1 ∧ pnorm (psd a b).2 = (psd a b).2 := by
  unfold psd
  split
  · exact ⟨rfl, rfl⟩
  · exact pseudoGo_norm _ _ _ rfl (norm_norm _)
theorem psd_bd {a b : List Int} {K L : Nat} (ha : Bd a K) (hb : Bd b L) : Bd (psd a b).1 (K + (a.length + 1) * (L + 1)) ∧ Bd (psd a b).2 (K + (a.length + 1) * (L + 1)) := by
  have hn := norm_len a
  have h : ∀ (m0 n : Nat) (q r : List Int), m0 = (pnorm a).length + 1 - (pnorm b).length → PsI (cf (pnorm b) ((pnorm b).length - 1)) (pnorm b) (pnorm a) K L m0 n q r → Bd (pseudoGo (cf (pnorm b) ((pnorm b).length - 1)) (pnorm b) n q r).1 (K + m0 * (L + 1)) ∧ Bd (pseudoGo (cf (pnorm b) ((pnorm b).length - 1)) (pnorm b) n q r).2 (K + m0 * (L + 1)) := by
    intro m0 n
    induction n with
    | zero => intro q r _ p; exact p.bnd
    | succ n ih =>
      intro q r hm p
      have := p.le
      exact ih _ _ hm (p.step (by rw [cf_norm]; exact hb _) hb.norm (by omega))
  unfold psd
  split
  · exact ⟨Bd.nil _, Bd.nil _⟩
  · have hle : (pnorm a).length + 1 - (pnorm b).length ≤ a.length + 1 := by omega
    have hm := Nat.mul_le_mul_right (L + 1) hle
    have := h _ _ [] (pnorm a) rfl (PsI.start ha.norm (norm_norm _))
    exact ⟨this.1.mono (by omega), this.2.mono (by omega)⟩
/-- content and primitive part -/
theorem cont_take (l : List Int) {i : Nat} (h : i < l.length) : cont (l.take (i + 1)) = Nat.gcd (cont (l.take i)) (cf l i).natAbs := by
  unfold cont
  rw [List.take_add_one, getElem_cf h, Option.toList_some, List.foldl_append]; rfl
theorem gcd_nw {a b K : Nat} (h : (List.length (words a)) ≤ K) (k : (List.length (words b)) ≤ K) : (List.length (words (Nat.gcd a b))) ≤ K := by
  rcases Nat.eq_zero_or_pos a with rfl | ha
  · rw [Nat.gcd_zero_left]; exact k
  · exact Nat.le_trans (nw_mono (Nat.gcd_le_left b ha)) h
theorem cont_nw {l : List Int} {K : Nat} (h : Bd l K) : ∀ i, i ≤ l.length → (List.length (words (cont (l.take i)))) ≤ K
  | 0, _ => by rw [List.take_zero]; show (List.length (words (0 : Nat))) ≤ K; rw [words_zero]; exact Nat.zero_le _
  | i + 1, hi => by rw [cont_take l hi]; exact gcd_nw (cont_nw h i (by omega)) (h i)
theorem cont_nw' {l : List Int} {K : Nat} (h : Bd l K) : (List.length (words (cont l))) ≤ K := by
  have := cont_nw h l.length (Nat.le_refl _)
  rwa [List.take_length] at this
/-- the content, with the sign of the greatest number -/
def scont (l : List Int) : Int := if cf l (l.length - 1) < 0 then -(cont l : Int) else (cont l : Int)
theorem scont_abs (l : List Int) : (scont l).natAbs = cont l := by unfold scont; split <;> omega
def prim (l : List Int) : List Int := (pnorm l).map fun x => x.tdiv (scont (pnorm l))
theorem scont_dvd (l : List Int) (i : Nat) : scont l ∣ cf l i := by
  have h := cont_dvd l i
  unfold scont; split
  · exact Int.neg_dvd.2 h
  · exact h
theorem scont_ne {l : List Int} (h : l ≠ []) (hn : pnorm l = l) : scont l ≠ 0 := fun e => by
  have h1 := scont_abs l
  rw [e] at h1
  have h2 := cont_zero.1 h1.symm
  exact norm_last (l := l) (by rw [hn]; exact h) (h2 _)
theorem cf_mapt (l : List Int) (c : Int) (i : Nat) : cf (l.map fun x => x.tdiv c) i = (cf l i).tdiv c := by
  unfold cf; rw [List.getD, List.getD, List.getElem?_map]
  cases l[i]? with
  | none => exact (Int.zero_tdiv c).symm
  | some z => rfl
theorem cf_prim (l : List Int) (i : Nat) : cf (prim l) i = (cf l i).tdiv (scont (pnorm l)) := by unfold prim; rw [cf_mapt, cf_norm]
theorem prim_back (l : List Int) (i : Nat) : cf (prim l) i * scont (pnorm l) = cf l i := by
  rw [cf_prim]
  have := scont_dvd (pnorm l) i
  rw [cf_norm] at this
  exact Int.tdiv_mul_cancel this
theorem exact_dvd {x c : Int} (h0 : c ≠ 0) (h : c ∣ x) : (if c ≠ 0 ∧ x.tmod c = 0 then x.tdiv c else 0) = x.tdiv c := if_pos ⟨h0, Int.tmod_eq_zero_of_dvd h⟩
end Go.Pz
namespace Go.En
open Go.Nt Go.Pz
theorem zM0 {k : Nat} {r : Mem} : ((some k, cellM [isB false, SlM isU []]) :: r : Mem) = zM k 0 :: r := by
  show _ = (some k, cellM [isB (decide ((0 : Int) < 0)), SlM isU (words (0 : Int).natAbs)]) :: r
  rw [Int.natAbs_zero, words_zero]; rfl
theorem zc_eq {p q : Bool × List Nat} (h : p = q) : Flat (zc p) = Flat (zc q) := h ▸ rfl
theorem isP_nil {l : List Int} (h : l = []) : SlK 2 zc ([] : List (Bool × List Nat)) = isP l := by subst h; rfl
theorem getZ {l : List Int} {i : Nat} (h : i < l.length) : (l.map nz)[i]? = some (nz (cf l i)) := by rw [List.getElem?_map, getElem_cf h]; rfl
theorem exEq {x y x' y' : Int} (h : x = x') (k : y = y') : isTup [isZ (if y ≠ 0 ∧ x.tmod y = 0 then x.tdiv y else 0), isB (decide (y ≠ 0 ∧ x.tmod y = 0))] = isTup [isZ (if y' ≠ 0 ∧ x'.tmod y' = 0 then x'.tdiv y' else 0), isB (decide (y' ≠ 0 ∧ x'.tmod y' = 0))] := by subst h; subst k; rfl
theorem bd64 {l : List Int} (h : ∀ y ∈ l, -9223372036854775808 ≤ y ∧ y < 9223372036854775808) : Bd l 1 := fun i => by
  rcases Nat.lt_or_ge i l.length with hi | hi
  · have := h (cf l i) (List.mem_of_getElem? (getElem_cf hi))
    exact nw_small' (by omega)
  · rw [cf_high hi, Int.natAbs_zero, words_zero]; exact Nat.zero_le _
theorem Has.okI {E : Env} {Γ : Ctx} {M : Mem} {x : Operand} {xs : List Int} (h : Has E Γ M x (SlM isI xs)) : ∀ a w F, Sat E Γ M a w F → ∀ y ∈ xs, -9223372036854775808 ≤ y ∧ y < 9223372036854775808 := by
  intro a w F s y hy
  obtain ⟨ad, cap, e, g1, g2, g3, g4⟩ := h a w F s
  obtain ⟨i, hi, rfl⟩ := List.mem_iff_getElem.1 hy
  rcases g4 with g4 | ⟨b, off, _, _, vs, hv, _⟩
  · omega
  · obtain ⟨v, _, h2⟩ := hv.get i (isI xs[i]) (by simp [hi])
    exact ⟨h2.2.1, h2.2.2⟩
end Go.En
/- Contracts: products of polynomials. -/
namespace Go.Proofs.Ytgkbekcpmbjbdaa
open Go.En Go.RowKit
set_option linter.unusedVariables false
set_option maxRecDepth 10000
open Go.Nt
open Go.Pz
set_option maxHeartbeats 4000000 in
theorem zpoly_shifted {l : List Int} {n : Nat} (hn : n + l.length ≤ 4000000) : Ctr Try.prog 153 [isP l, isI (n : Int)] (isP (pshift l n)) := by
  refine Ctr.intro Try.func153 rfl (by kernel_rfl) Try.ntmps153 rfl fun w0 F0 => ?_
  refine Tri.cv (Cv.wk (.cons (t := 0) (Has.t rfl) (.cons (t := 1) (Has.t rfl) .nil))) ?_
  have hll : (l.map nz).length = l.length := List.length_map _
  refine Tri.fact (Has.lenLt (Has.t (t := 0) rfl)) fun lt0 => ?_
  refine Tri.seq fun K1 hK1 => ?_
  refine Tri.region ?_
  refine st (OK1.as (Has.cWK (k := 2) (fk := zc))) rfl ?_
  refine nl ?_
  refine At.thn (hK1 _ _ ?_); clear hK1
  refine Tri.seq fun K2 hK2 => ?_
  refine Tri.region ?_
  refine st (OK1.mv (Has.t rfl)) rfl ?_
  refine st (OK1.mv (Has.t rfl)) rfl ?_
  refine st (OK1.mv (Has.t rfl)) rfl ?_
  refine st (OK1.len sl34 (Has.t rfl)) rfl ?_
  refine st (OK1.eq (OK1.addI (Has.t rfl) (Has.t rfl) (by first | omega | assumption) (by first | omega | assumption)) ((show isI _ = isI ((n + l.length : Nat) : Int) from isI_eq (by omega)))) rfl ?_
  refine Ops.makeK (fk := zc) (u := (false, [])) (n := n) (c := n + l.length) sl34 ty44 zero44 (fun _ _ => ⟨rfl, nilM _ _, trivial⟩) zc_len by44 (Has.t' rfl rfl) (Has.t' rfl rfl) ⟨by omega, by omega⟩ rfl fun b1 => ?_
  refine st (OK1.mv (Has.t rfl)) rfl ?_
  refine Ops.cv (Cv.winGrK (fk := zc) (t := 10) (i := 0) (ys := List.replicate n (false, [])) rfl rfl (by simp) (by simp) (by simp)) ?_
  refine Ops.memEq (M' := [grMK _ _ _]) rfl ?_
  refine Ops.appendGK0 (fk := zc) (u := (false, [])) zc_len (by decide) (fun _ => inferInstance) sl34 ty44 zero44 (fun _ _ => ⟨rfl, nilM _ _, trivial⟩) by44 (Has.t rfl) (i := 0) rfl (Has.t rfl) (by rw [List.length_replicate]; omega) rfl fun gr1 => ?_
  refine Ops.memEq (M' := [grMK _ _ _]) rfl ?_
  refine Ops.cv (Cv.freezeGKn (t := 12) (i := 0) (ys := List.replicate n (false, []) ++ l.map nz) zc_len rfl rfl rfl (by simp)) ?_
  refine Ops.memEq (M' := []) rfl ?_
  refine Ops.cv (Cv.wk (.cons (t := 0) (Has.t rfl) (.cons (t := 1) (Has.t rfl) (.cons (t := 4) (Has.t rfl) (.cons (t := 5) (Has.t rfl) (.cons (t := 6) (Has.t rfl) (.cons (t := 7) (Has.t rfl) (.cons (t := 8) (Has.t rfl) (.cons (t := 9) (Has.t rfl) (.cons (t := 11) (Has.t rfl) (.cons (t := 12) (Has.t rfl) .nil))))))))))) ?_
  refine st (OK1.as (Has.t rfl)) rfl ?_
  refine nl ?_
  refine At.thn (hK2 _ _ ?_); clear hK2
  refine Tri.cv (Cv.wk (.cons (t := 4) (Has.t rfl) .nil)) ?_
  refine Tri.ret ?_
  refine rt1 (.inl rfl) Try.results153 rfl (.tmp (Has.t' rfl ?_) .nil)
  all_goals (exact SlK_eq (by unfold pshift; rw [List.map_append, List.map_replicate, nz_zero]))
set_option maxHeartbeats 4000000 in
theorem zpoly_Mul {xs ys : List (Bool × List Nat)} {K L : Nat} (hx : Bd (vals xs) K) (hy : Bd (vals ys) L) (hK : K ≤ 400000000) (hL : L ≤ 400000000) (hn : xs.length ≤ 400000) (hm : ys.length ≤ 400000) : Ctr Try.prog 43 [SlK 2 zc xs, SlK 2 zc ys] (isP (pmul (vals xs) (vals ys))) := by
  refine Ctr.intro Try.func43 rfl (by kernel_rfl) Try.ntmps43 rfl fun w0 F0 => ?_
  refine Tri.cv (Cv.wk (.cons (t := 0) (Has.t rfl) (.cons (t := 1) (Has.t rfl) .nil))) ?_
  refine Tri.fact (Has.lenLt (Has.t (t := 0) rfl)) fun lt0 => ?_
  refine Tri.fact (Has.lenLt (Has.t (t := 1) rfl)) fun lt1 => ?_
  obtain ⟨A, hA⟩ : ∃ A, A = pnorm (vals xs) := ⟨_, rfl⟩
  obtain ⟨B, hB⟩ : ∃ B, B = pnorm (vals ys) := ⟨_, rfl⟩
  have hAl : A.length ≤ xs.length := by rw [hA, ← vals_len xs]; exact norm_len _
  have hBl : B.length ≤ ys.length := by rw [hB, ← vals_len ys]; exact norm_len _
  have bA : Bd A K := by rw [hA]; exact hx.norm
  have bB : Bd B L := by rw [hB]; exact hy.norm
  have hAn : pnorm A = A := by rw [hA]; exact norm_norm _
  have hBn : pnorm B = B := by rw [hB]; exact norm_norm _
  have hAm : (A.map nz).length = A.length := List.length_map _
  have hBm : (B.map nz).length = B.length := List.length_map _
  refine Tri.seq fun K1 hK1 => ?_
  refine Tri.region ?_
  refine st (OK1.as (Has.cWK (k := 2) (fk := zc))) rfl ?_
  refine nl ?_
  refine At.thn (hK1 _ _ ?_); clear hK1
  refine Tri.seq fun K2 hK2 => ?_
  refine Tri.region ?_
  refine st (OK1.mv (Has.t rfl)) rfl ?_
  refine st (OK1.eq (OK1.call (zpoly_Norm hx (by omega) (by omega)) (.cons (Has.t rfl) .nil)) ((show isP (pnorm (vals xs)) = isP A from isP_eq hA.symm))) rfl ?_
  refine st (OK1.mv (Has.t rfl)) rfl ?_
  refine st (OK1.eq (OK1.call (zpoly_Norm hy (by omega) (by omega)) (.cons (Has.t rfl) .nil)) ((show isP (pnorm (vals ys)) = isP B from isP_eq hB.symm))) rfl ?_
  refine st (OK1.as (Has.t rfl)) rfl ?_
  refine st (OK1.as (Has.t rfl)) rfl ?_
  refine nl ?_
  refine At.thn (hK2 _ _ ?_); clear hK2
  refine Tri.seq fun K3 hK3 => ?_
  refine Tri.seq fun K4 hK4 => ?_
  refine Tri.region ?_
  refine st (OK1.mv (Has.t rfl)) rfl ?_
  refine st (OK1.len sl34 (Has.t rfl)) rfl ?_
  refine st (OK1.eqI (Has.t rfl) (Has.cI 0 rfl)) rfl ?_
  refine st (OK1.mv (Has.t rfl)) rfl ?_
  refine stF rfl rfl (fun hg => have hg' := BP.t hg; OK1.mv (Has.t rfl)) rfl ?_
  refine stF rfl rfl (fun hg => have hg' := BP.t hg; OK1.len sl34 (Has.g rfl hg)) rfl ?_
  refine stF rfl rfl (fun hg => have hg' := BP.t hg; OK1.eqI (Has.g rfl hg) (Has.cI 0 rfl)) rfl ?_
  refine st (OK1.pickOr (Has.t rfl) (fun h => Has.g rfl (ng h))) rfl ?_
  refine nl ?_
  refine At.thn (hK4 _ _ ?_); clear hK4
  refine Tri.cv (Cv.wk (.cons (t := 0) (Has.t rfl) (.cons (t := 1) (Has.t rfl) (.cons (t := 4) (Has.t rfl) (.cons (t := 21) (Has.t rfl) .nil))))) ?_
  refine Tri.cond (Has.t rfl) (fun hc1 => ?_) (fun hc1 => ?_)
  · have hc1 := BP.t hc1
    have HE := hc1
    refine Tri.seq fun K5 hK5 => ?_
    refine Tri.region ?_
    refine st (OK1.as (Has.cWK (k := 2) (fk := zc))) rfl ?_
    refine nl ?_
    refine At.thn (hK5 _ _ ?_); clear hK5
    refine Tri.ret ?_
    refine At.thr ?_
    refine rt1 (.inl rfl) Try.results43 rfl (.tmp (Has.t' rfl ?_) .nil)
    all_goals (exact isP_nil (by unfold pmul; rw [if_pos (by rw [← hA, ← hB]; rw [hAm, hBm] at HE; rcases HE with h | h; exact .inl (List.eq_nil_of_length_eq_zero (by omega)); exact .inr (List.eq_nil_of_length_eq_zero (by omega)))]))
  · have hc1 := BP.f hc1
    have HE := hc1
    rw [hAm, hBm] at HE
    have hA0 : 0 < A.length := Nat.pos_of_ne_zero (by omega)
    have hB0 : 0 < B.length := Nat.pos_of_ne_zero (by omega)
    refine Tri.skip ?_
    refine At.thn (hK3 _ _ ?_); clear hK3
    refine Tri.seq fun K6 hK6 => ?_
    refine Tri.region ?_
    refine st (OK1.mv (Has.t rfl)) rfl ?_
    refine st (OK1.len sl34 (Has.t rfl)) rfl ?_
    refine st (OK1.mv (Has.t rfl)) rfl ?_
    refine st (OK1.len sl34 (Has.t rfl)) rfl ?_
    refine st (OK1.addI (Has.t rfl) (Has.t rfl) (by first | omega | assumption) (by first | omega | assumption)) rfl ?_
    refine st (OK1.eq (OK1.subI (Has.t rfl) (Has.cI 1 rfl) (by first | omega | assumption) (by first | omega | assumption)) ((show isI _ = isI ((A.length + B.length - 1 : Nat) : Int) from isI_eq (by omega)))) rfl ?_
    refine Ops.makeK (fk := zc) (u := (false, [])) (n := A.length + B.length - 1) (c := A.length + B.length - 1) sl34 ty44 zero44 (fun _ _ => ⟨rfl, nilM _ _, trivial⟩) zc_len by44 (Has.t' rfl rfl) (Has.t' rfl rfl) ⟨Nat.le_refl _, by omega⟩ rfl fun b1 => ?_
    refine st (OK1.as (Has.t rfl)) rfl ?_
    refine nl ?_
    refine At.thn (hK6 _ _ ?_); clear hK6
    refine Tri.cv (Cv.wk (.cons (t := 0) (Has.t rfl) (.cons (t := 1) (Has.t rfl) (.cons (t := 4) (Has.t rfl) (.cons (t := 5) (Has.t rfl) .nil))))) ?_
    refine Tri.seq fun K7 hK7 => ?_
    refine Tri.seq fun K8 hK8 => ?_
    refine Tri.region ?_
    refine st (OK1.mv (Has.t rfl)) rfl ?_
    refine st (OK1.len sl34 (Has.t rfl)) rfl ?_
    refine st (OK1.mv (Has.cI 0 rfl)) rfl ?_
    refine nl ?_
    refine At.thn (hK8 _ _ ?_); clear hK8
    refine Tri.block ?_
    refine Tri.loopF [1, 4, 5, 29, 30] (fun (z : { i : Nat // i ≤ A.length }) => match z with | ⟨i, hi⟩ => [(31, isI (i : Int))]) (fun M => fun (z : { i : Nat // i ≤ A.length }) => match z with | ⟨i, hi⟩ => [(some b1, cellM (((rowL (cf A) (cf B) (A.length + B.length - 1) i 0).map nz).flatMap zc))]) (fun (z : { i : Nat // i ≤ A.length }) => match z with | ⟨i, hi⟩ => A.length - i) (⟨0, Nat.zero_le _⟩) (Cv.mem (.cons (t := 31) (Has.t' rfl ?_) (.cons (t := 1) (Has.t rfl) (.cons (t := 4) (Has.t rfl) (.cons (t := 5) (Has.t rfl) (.cons (t := 29) (Has.t rfl) (.cons (t := 30) (Has.t rfl) .nil)))))) ?_) ?_
    · rfl
    · exact memZ_eq (by rw [rowL_zero, List.map_replicate, nz_zero])
    rintro ⟨i, hi⟩ K9 hK9
    refine Tri.cv (Cv.wk (.cons (t := 31) (Has.t rfl) (.cons (t := 1) (Has.t rfl) (.cons (t := 4) (Has.t rfl) (.cons (t := 5) (Has.t rfl) (.cons (t := 29) (Has.t rfl) (.cons (t := 30) (Has.t rfl) .nil))))))) ?_
    refine Tri.memEq (M' := [(some b1, cellM (((rowL (cf A) (cf B) (A.length + B.length - 1) i 0).map nz).flatMap zc))]) rfl ?_
    refine Tri.seq fun K10 hK10 => ?_
    refine Tri.region ?_
    refine st (OK1.ltI (Has.t rfl) (Has.t rfl)) rfl ?_
    refine nl ?_
    refine At.thn (hK10 _ _ ?_); clear hK10
    refine Tri.seq fun K11 hK11 => ?_
    refine Tri.cond (Has.t rfl) (fun hc2 => ?_) (fun hc2 => ?_)
    · have hc2 := BP.t hc2
      refine Tri.skip ?_
      refine At.thn (hK11 _ _ ?_); clear hK11
      refine Tri.seq fun K12 hK12 => ?_
      refine Tri.block ?_
      refine Tri.seq fun K13 hK13 => ?_
      refine Tri.region ?_
      refine st (OK1.mv (Has.t rfl)) rfl ?_
      refine st (OK1.ixK sl34 ty44 (Has.t rfl) (Has.t rfl) zc_len ⟨by omega, by omega⟩ (getZ (i := i) (by omega))) rfl ?_
      refine st (OK1.loadP (Has.t rfl) ty44 rfl (Ss' := [_, _]) rfl) rfl ?_
      refine Ops.alloc [isB false, SlM isU []] zero44 (fun _ _ => ⟨rfl, nilM _ _, trivial⟩) rfl fun b2 => ?_
      refine st (OK1.as (Has.t rfl)) rfl ?_
      refine Ops.store (Has.t rfl) (Has.t rfl) (i := 0) rfl ty44 rfl rfl (Ss' := [_, _]) rfl (M' := [(some _, cellM [_, _]), _]) rfl ?_
      refine nl ?_
      refine At.thn (hK13 _ _ ?_); clear hK13
      refine Tri.seq fun K14 hK14 => ?_
      refine Tri.region ?_
      refine st (OK1.mv (Has.t rfl)) rfl ?_
      refine st (OK1.len sl34 (Has.t rfl)) rfl ?_
      refine st (OK1.mv (Has.cI 0 rfl)) rfl ?_
      refine nl ?_
      refine At.thn (hK14 _ _ ?_); clear hK14
      refine Tri.block ?_
      refine Tri.loopF [1, 4, 5, 29, 30, 31, 32, 33, 34, 35, 7, 6, 36, 37] (fun (z : { k : Nat // k ≤ B.length }) => match z with | ⟨k, hk⟩ => [(38, isI (k : Int))]) (fun M => fun (z : { k : Nat // k ≤ B.length }) => match z with | ⟨k, hk⟩ => [zM b2 (cf A i), (some b1, cellM (((rowL (cf A) (cf B) (A.length + B.length - 1) i k).map nz).flatMap zc))]) (fun (z : { k : Nat // k ≤ B.length }) => match z with | ⟨k, hk⟩ => B.length - k) (⟨0, Nat.zero_le _⟩) (Cv.mem (.cons (t := 38) (Has.t' rfl ?_) (.cons (t := 1) (Has.t rfl) (.cons (t := 4) (Has.t rfl) (.cons (t := 5) (Has.t rfl) (.cons (t := 29) (Has.t rfl) (.cons (t := 30) (Has.t rfl) (.cons (t := 31) (Has.t rfl) (.cons (t := 32) (Has.t rfl) (.cons (t := 33) (Has.t rfl) (.cons (t := 34) (Has.t rfl) (.cons (t := 35) (Has.t rfl) (.cons (t := 7) (Has.t rfl) (.cons (t := 6) (Has.t rfl) (.cons (t := 36) (Has.t rfl) (.cons (t := 37) (Has.t rfl) .nil))))))))))))))) ?_) ?_
      · rfl
      · rfl
      rintro ⟨k, hk⟩ K15 hK15
      refine Tri.cv (Cv.wk (.cons (t := 38) (Has.t rfl) (.cons (t := 1) (Has.t rfl) (.cons (t := 4) (Has.t rfl) (.cons (t := 5) (Has.t rfl) (.cons (t := 29) (Has.t rfl) (.cons (t := 30) (Has.t rfl) (.cons (t := 31) (Has.t rfl) (.cons (t := 32) (Has.t rfl) (.cons (t := 33) (Has.t rfl) (.cons (t := 34) (Has.t rfl) (.cons (t := 35) (Has.t rfl) (.cons (t := 7) (Has.t rfl) (.cons (t := 6) (Has.t rfl) (.cons (t := 36) (Has.t rfl) (.cons (t := 37) (Has.t rfl) .nil)))))))))))))))) ?_
      refine Tri.memEq (M' := [zM b2 (cf A i), (some b1, cellM (((rowL (cf A) (cf B) (A.length + B.length - 1) i k).map nz).flatMap zc))]) rfl ?_
      refine Tri.seq fun K16 hK16 => ?_
      refine Tri.region ?_
      refine st (OK1.ltI (Has.t rfl) (Has.t rfl)) rfl ?_
      refine nl ?_
      refine At.thn (hK16 _ _ ?_); clear hK16
      refine Tri.seq fun K17 hK17 => ?_
      refine Tri.cond (Has.t rfl) (fun hc3 => ?_) (fun hc3 => ?_)
      · have hc3 := BP.t hc3
        refine Tri.skip ?_
        refine At.thn (hK17 _ _ ?_); clear hK17
        refine Tri.seq fun K18 hK18 => ?_
        refine Tri.block ?_
        refine Tri.seq fun K19 hK19 => ?_
        refine Tri.region ?_
        refine st (OK1.mv (Has.t rfl)) rfl ?_
        refine st (OK1.ixK sl34 ty44 (Has.t rfl) (Has.t rfl) zc_len ⟨by omega, by omega⟩ (getZ (i := k) (by omega))) rfl ?_
        refine st (OK1.loadP (Has.t rfl) ty44 rfl (Ss' := [_, _]) rfl) rfl ?_
        refine Ops.alloc [isB false, SlM isU []] zero44 (fun _ _ => ⟨rfl, nilM _ _, trivial⟩) rfl fun b3 => ?_
        refine st (OK1.as (Has.t rfl)) rfl ?_
        refine Ops.store (Has.t rfl) (Has.t rfl) (i := 0) rfl ty44 rfl rfl (Ss' := [_, _]) rfl (M' := [(some _, cellM [_, _]), _, _]) rfl ?_
        refine nl ?_
        refine At.thn (hK19 _ _ ?_); clear hK19
        refine Tri.dr ?_
        refine DrG.st (i := 0) [] rfl rfl rfl (by kernel_rfl) (OKG.o rfl (OK1.mv (Has.t rfl))) ?_
        refine DrG.st (i := 1) [] rfl rfl rfl (by kernel_rfl) (OKG.o rfl (OK1.mv (Has.t rfl))) ?_
        refine DrG.st (i := 2) [] rfl rfl rfl (by kernel_rfl) (OKG.o rfl (OK1.mv (Has.t rfl))) ?_
        refine DrG.st (i := 3) [44, 45] rfl rfl rfl (by kernel_rfl) (OKG.o rfl (OK1.eq (OK1.addI (Has.t rfl) (Has.t rfl) (by first | omega | assumption) (by first | omega | assumption)) ((show isI _ = isI ((i + k : Nat) : Int) from isI_eq (by omega))))) ?_
        refine DrG.st (i := 4) [] rfl rfl rfl (by kernel_rfl) (OKG.o rfl (OK1.mv (Has.t rfl))) ?_
        refine DrG.st (i := 5) [] rfl rfl rfl (by kernel_rfl) (OKG.o rfl (OK1.mv (Has.t rfl))) ?_
        refine DrG.st (i := 6) [] rfl rfl rfl (by kernel_rfl) (OKG.o rfl (OK1.mv (Has.t rfl))) ?_
        refine DrG.st (i := 7) [48, 49] rfl rfl rfl (by kernel_rfl) (OKG.o rfl (OK1.eq (OK1.addI (Has.t rfl) (Has.t rfl) (by first | omega | assumption) (by first | omega | assumption)) ((show isI _ = isI ((i + k : Nat) : Int) from isI_eq (by omega))))) ?_
        refine DrG.st (i := 8) [47, 50] rfl rfl rfl (by kernel_rfl) (OKG.o rfl (OK1.eq (OK1.ixWin sl34 ty44 (Has.t rfl) (Has.t rfl) ⟨by omega, by omega⟩) (isPtr_eq (by first | exact ixo0 | exact ixo2 | exact ixo1)))) ?_
        refine DrG.st (i := 9) [51] rfl rfl rfl (by kernel_rfl) (OKG.o rfl (OK1.loadK zc_len (Has.t rfl) (i := 2) rfl ty44 (rowL_getz (n := i + k) _ _ _ _ (by omega)))) ?_
        refine DrG.st (i := 10) [] rfl rfl rfl (by kernel_rfl) (OKG.o rfl (OK1.load (Has.t rfl) (i := 1) rfl ty44 rfl (Ss' := [_, _]) rfl)) ?_
        refine DrG.st (i := 11) [] rfl rfl rfl (by kernel_rfl) (OKG.o rfl (OK1.load (Has.t rfl) (i := 0) rfl ty44 rfl (Ss' := [_, _]) rfl)) ?_
        refine DrG.st (i := 12) [53, 54] rfl rfl rfl (by kernel_rfl) (OKG.o rfl (OK1.eq (OK1.call (zint_Mul (by rw [val_words]; have := bA i; omega) (by rw [val_words]; have := bB k; omega)) (.cons (Has.t rfl) (.cons (Has.t rfl) .nil))) ((show isZ _ = isZ (cf A i * cf B k) from isZ_eq (by simp only [zv_nz, zv_nf]))))) ?_
        refine DrG.st (i := 13) [52, 55] rfl rfl rfl (by kernel_rfl) (OKG.o rfl (OK1.eq (OK1.call (zint_Add (by rw [val_words]; have := rowV_nw bA bB i k (i + k); omega) (by rw [val_words]; have := nz_mul (cf A i) (cf B k); have := bA i; have := bB k; omega)) (.cons (Has.t rfl) (.cons (Has.t rfl) .nil))) ((show isZ _ = isZ (rowV (cf A) (cf B) i k (i + k) + cf A i * cf B k) from isZ_eq (by simp only [zv_nz, zv_nf]))))) ?_
        refine DrG.fin (n := 14) mixed (by kernel_rfl) (by kernel_rfl) (by kernel_rfl) ?_
        refine Ops.cv (Cv.wk (.cons (t := 1) (Has.t rfl) (.cons (t := 4) (Has.t rfl) (.cons (t := 5) (Has.t rfl) (.cons (t := 29) (Has.t rfl) (.cons (t := 30) (Has.t rfl) (.cons (t := 31) (Has.t rfl) (.cons (t := 32) (Has.t rfl) (.cons (t := 33) (Has.t rfl) (.cons (t := 34) (Has.t rfl) (.cons (t := 35) (Has.t rfl) (.cons (t := 7) (Has.t rfl) (.cons (t := 6) (Has.t rfl) (.cons (t := 36) (Has.t rfl) (.cons (t := 37) (Has.t rfl) (.cons (t := 38) (Has.t rfl) (.cons (t := 39) (Has.t rfl) (.cons (t := 40) (Has.t rfl) (.cons (t := 41) (Has.t rfl) (.cons (t := 42) (Has.t rfl) (.cons (t := 9) (Has.t rfl) (.cons (t := 8) (Has.t rfl) (.cons (t := 43) (Has.t rfl) (.cons (t := 44) (Has.t rfl) (.cons (t := 45) (Has.t rfl) (.cons (t := 46) (Has.t rfl) (.cons (t := 47) (Has.t rfl) (.cons (t := 48) (Has.t rfl) (.cons (t := 49) (Has.t rfl) (.cons (t := 50) (Has.t rfl) (.cons (t := 51) (Has.t rfl) (.cons (t := 52) (Has.t rfl) (.cons (t := 53) (Has.t rfl) (.cons (t := 54) (Has.t rfl) (.cons (t := 55) (Has.t rfl) (.cons (t := 56) (Has.t rfl) .nil)))))))))))))))))))))))))))))))))))) ?_
        refine st (OK1.eq (OK1.ixWin sl34 ty44 (Has.t rfl) (Has.t rfl) ⟨by omega, by omega⟩) (isPtr_eq (by first | exact ixo0 | exact ixo2 | exact ixo1))) rfl ?_
        refine Ops.storeK (z := nz (rowV (cf A) (cf B) i k (i + k) + cf A i * cf B k)) zc_len (Has.t rfl) (Has.t rfl) (i := 2) rfl ty44 (by rw [List.length_map, rowL_len]; show i + k < _; omega) (M' := [_, _, (_, _)]) rfl ?_
        refine nl ?_
        refine At.bln ?_
        refine At.thn (hK18 _ _ ?_); clear hK18
        refine Tri.region ?_
        refine st (OK1.addI (Has.t rfl) (Has.cI 1 rfl) (by first | omega | assumption) (by first | omega | assumption)) rfl ?_
        refine st (OK1.mv (Has.t rfl)) rfl ?_
        refine nl ?_
        refine At.thn ?_
        refine hK15 (⟨k + 1, by omega⟩) _ _ ?_ (Cv.trans (Cv.drop ((.cons _ (.cons_cons _ (.cons_cons _ .slnil))))) (Cv.mem (.cons (t := 38) (Has.t' rfl ?_) (.cons (t := 1) (Has.t rfl) (.cons (t := 4) (Has.t rfl) (.cons (t := 5) (Has.t rfl) (.cons (t := 29) (Has.t rfl) (.cons (t := 30) (Has.t rfl) (.cons (t := 31) (Has.t rfl) (.cons (t := 32) (Has.t rfl) (.cons (t := 33) (Has.t rfl) (.cons (t := 34) (Has.t rfl) (.cons (t := 35) (Has.t rfl) (.cons (t := 7) (Has.t rfl) (.cons (t := 6) (Has.t rfl) (.cons (t := 36) (Has.t rfl) (.cons (t := 37) (Has.t rfl) .nil))))))))))))))) ?_))
        · show B.length - (k + 1) < B.length - k; omega
        · exact isI_eq (by omega)
        · exact congrArg (List.cons _) (memZ_eq (rowL_setz _ _ (by omega)))
      · have hc3 := BP.f hc3
        refine Tri.exit ?_
        refine At.the ?_
        refine At.the ?_
        refine At.blh ?_
        refine At.bln ?_
        refine At.thn (hK12 _ _ ?_); clear hK12
        refine Tri.region ?_
        refine st (OK1.addI (Has.t rfl) (Has.cI 1 rfl) (by first | omega | assumption) (by first | omega | assumption)) rfl ?_
        refine st (OK1.mv (Has.t rfl)) rfl ?_
        refine nl ?_
        refine At.thn ?_
        obtain rfl : k = B.length := by omega
        refine hK9 (⟨i + 1, by omega⟩) _ _ ?_ (Cv.trans (Cv.drop ((.cons _ (.cons_cons _ .slnil)))) (Cv.mem (.cons (t := 31) (Has.t' rfl ?_) (.cons (t := 1) (Has.t rfl) (.cons (t := 4) (Has.t rfl) (.cons (t := 5) (Has.t rfl) (.cons (t := 29) (Has.t rfl) (.cons (t := 30) (Has.t rfl) .nil)))))) ?_))
        · show A.length - (i + 1) < A.length - i; omega
        · exact isI_eq (by omega)
        · exact memZ_eq (by rw [rowL_next (fun n hn => cf_high hn)])
    · have hc2 := BP.f hc2
      refine Tri.exit ?_
      refine At.the ?_
      refine At.the ?_
      refine At.blh ?_
      refine At.thn (hK7 _ _ ?_); clear hK7
      refine Tri.cv (Cv.wk (.cons (t := 4) (Has.t rfl) (.cons (t := 5) (Has.t rfl) .nil))) ?_
      refine Tri.seq fun K20 hK20 => ?_
      refine Tri.cv (Cv.freezeK (t := 5) (i := 0) (ys := (rowL (cf A) (cf B) (A.length + B.length - 1) A.length 0).map nz) zc_len rfl rfl rfl (by rw [List.length_map, rowL_len]; omega) (by rw [List.take_of_length_le (by rw [List.length_map, rowL_len]; omega), show i = A.length by omega])) ?_
      refine Tri.memEq (M' := []) rfl ?_
      refine Tri.cv (Cv.wk (.cons (t := 4) (Has.t rfl) (.cons (t := 5) (Has.t rfl) .nil))) ?_
      refine Tri.region ?_
      refine st (OK1.mv (Has.t rfl)) rfl ?_
      refine st (OK1.call (zpoly_Norm (K := K + L + A.length + 1) (by rw [vals_nz]; exact rowL_bd bA bB _ _ _) (by omega) (by rw [List.length_map, rowL_len]; omega)) (.cons (Has.t rfl) .nil)) rfl ?_
      refine st (OK1.as (Has.t rfl)) rfl ?_
      refine nl ?_
      refine At.thn (hK20 _ _ ?_); clear hK20
      refine Tri.ret ?_
      refine rt1 (.inl rfl) Try.results43 rfl (.tmp (Has.t' rfl ?_) .nil)
      all_goals (exact isP_eq (by rw [vals_nz, pmul_rows (by rw [← hA]; exact List.length_pos_iff.1 hA0) (by rw [← hB]; exact List.length_pos_iff.1 hB0), ← hA, ← hB]))
end Go.Proofs.Ytgkbekcpmbjbdaa
/- Contracts: contents, values. -/
namespace Go.Proofs.Ytgkbekcpmbjbdaa
open Go.En Go.RowKit
set_option linter.unusedVariables false
set_option maxRecDepth 10000
open Go.Nt
open Go.Pz
set_option maxHeartbeats 4000000 in
theorem zpoly_Content {xs : List (Bool × List Nat)} {K : Nat} (hx : Bd (vals xs) K) (hK : K ≤ 4000000000) : Ctr Try.prog 131 [SlK 2 zc xs] (isZ (cont (vals xs) : Int)) := by
  refine Ctr.intro Try.func131 rfl (by kernel_rfl) Try.ntmps131 rfl fun w0 F0 => ?_
  refine Tri.cv (Cv.wk (.cons (t := 0) (Has.t rfl) .nil)) ?_
  refine Tri.fact (Has.lenLt (Has.t (t := 0) rfl)) fun lt0 => ?_
  have hvl := vals_len xs
  refine Tri.seq fun K1 hK1 => ?_
  refine Tri.region ?_
  refine Ops.alloc [isB false, SlM isU []] zero44 (fun _ _ => ⟨rfl, nilM _ _, trivial⟩) rfl fun b1 => ?_
  refine nl ?_
  refine At.thn (hK1 _ _ ?_); clear hK1
  refine Tri.seq fun K2 hK2 => ?_
  refine Tri.region ?_
  refine Ops.alloc [isB false, SlM isU []] zero44 (fun _ _ => ⟨rfl, nilM _ _, trivial⟩) rfl fun b2 => ?_
  refine nl ?_
  refine At.thn (hK2 _ _ ?_); clear hK2
  refine Tri.seq fun K3 hK3 => ?_
  refine Tri.seq fun K4 hK4 => ?_
  refine Tri.region ?_
  refine st (OK1.mv (Has.t rfl)) rfl ?_
  refine st (OK1.len sl34 (Has.t rfl)) rfl ?_
  refine st (OK1.mv (Has.cI 0 rfl)) rfl ?_
  refine nl ?_
  refine At.thn (hK4 _ _ ?_); clear hK4
  refine Tri.block ?_
  refine Tri.loopF [2, 3, 6, 7] (fun (z : { i : Nat // i ≤ xs.length }) => match z with | ⟨i, hi⟩ => [(8, isI (i : Int))]) (fun M => fun (z : { i : Nat // i ≤ xs.length }) => match z with | ⟨i, hi⟩ => [zM b2 (cont ((vals xs).take i) : Int), (some b1, cellM [isB false, SlM isU []])]) (fun (z : { i : Nat // i ≤ xs.length }) => match z with | ⟨i, hi⟩ => xs.length - i) (⟨0, Nat.zero_le _⟩) (Cv.mem (.cons (t := 8) (Has.t' rfl ?_) (.cons (t := 2) (Has.t rfl) (.cons (t := 3) (Has.t rfl) (.cons (t := 6) (Has.t rfl) (.cons (t := 7) (Has.t rfl) .nil))))) ?_) ?_
  · rfl
  · exact zM0
  rintro ⟨i, hi⟩ K5 hK5
  refine Tri.cv (Cv.wk (.cons (t := 8) (Has.t rfl) (.cons (t := 2) (Has.t rfl) (.cons (t := 3) (Has.t rfl) (.cons (t := 6) (Has.t rfl) (.cons (t := 7) (Has.t rfl) .nil)))))) ?_
  refine Tri.memEq (M' := [zM b2 (cont ((vals xs).take i) : Int), (some b1, cellM [isB false, SlM isU []])]) rfl ?_
  have hcn := cont_nw hx i (by omega)
  have hcx := hx.raw i
  refine Tri.seq fun K6 hK6 => ?_
  refine Tri.region ?_
  refine st (OK1.ltI (Has.t rfl) (Has.t rfl)) rfl ?_
  refine nl ?_
  refine At.thn (hK6 _ _ ?_); clear hK6
  refine Tri.seq fun K7 hK7 => ?_
  refine Tri.cond (Has.t rfl) (fun hc1 => ?_) (fun hc1 => ?_)
  · have hc1 := BP.t hc1
    refine Tri.skip ?_
    refine At.thn (hK7 _ _ ?_); clear hK7
    refine Tri.seq fun K8 hK8 => ?_
    refine Tri.block ?_
    refine Tri.seq fun K9 hK9 => ?_
    refine Tri.region ?_
    refine st (OK1.ixK sl34 ty44 (Has.t rfl) (Has.t rfl) zc_len ⟨by omega, by omega⟩ (getD_some (d := (false, [])) (by first | omega | (simp only [Int.toNat_natCast, List.length_set]; omega)))) rfl ?_
    refine st (OK1.loadP (Has.t rfl) ty44 rfl (Ss' := [_, _]) rfl) rfl ?_
    refine Ops.alloc [isB false, SlM isU []] zero44 (fun _ _ => ⟨rfl, nilM _ _, trivial⟩) rfl fun b3 => ?_
    refine Ops.store (Has.t rfl) (Has.t rfl) (i := 0) rfl ty44 rfl rfl (Ss' := [_, _]) rfl (M' := [(some _, cellM [_, _]), _, _]) rfl ?_
    refine nl ?_
    refine At.thn (hK9 _ _ ?_); clear hK9
    refine Tri.region ?_
    refine st (OK1.load (Has.t rfl) (i := 1) rfl ty44 rfl (Ss' := [_, _]) rfl) rfl ?_
    refine st (OK1.load (Has.t rfl) (i := 0) rfl ty44 rfl (Ss' := [_, _]) rfl) rfl ?_
    refine st (OK1.call (zint_Gcd (by rw [val_words, Int.natAbs_natCast]; omega) (by simp only [Int.toNat_natCast]; omega)) (.cons (Has.t rfl) (.cons (Has.t rfl) .nil))) rfl ?_
    refine Ops.store (Has.t rfl) (Has.t rfl) (i := 1) rfl ty44 rfl rfl (Ss' := [_, _]) rfl (M' := [_, (some _, cellM [_, _]), _]) rfl ?_
    refine nl ?_
    refine At.bln ?_
    refine At.thn (hK8 _ _ ?_); clear hK8
    refine Tri.region ?_
    refine st (OK1.addI (Has.t rfl) (Has.cI 1 rfl) (by first | omega | assumption) (by first | omega | assumption)) rfl ?_
    refine st (OK1.mv (Has.t rfl)) rfl ?_
    refine nl ?_
    refine At.thn ?_
    refine hK5 (⟨i + 1, by omega⟩) _ _ ?_ (Cv.trans (Cv.drop ((.cons _ (.cons_cons _ (.cons_cons _ .slnil))))) (Cv.mem (.cons (t := 8) (Has.t' rfl ?_) (.cons (t := 2) (Has.t rfl) (.cons (t := 3) (Has.t rfl) (.cons (t := 6) (Has.t rfl) (.cons (t := 7) (Has.t rfl) .nil))))) ?_))
    · show xs.length - (i + 1) < xs.length - i; omega
    · exact isI_eq (by omega)
    · exact zM_eq (by rw [cont_take _ (by omega), val_words, cf_vals, zv_abs]; simp only [Int.natAbs_natCast, Int.toNat_natCast]) rfl
  · have hc1 := BP.f hc1
    refine Tri.exit ?_
    refine At.the ?_
    refine At.the ?_
    refine At.blh ?_
    refine At.thn (hK3 _ _ ?_); clear hK3
    refine Tri.seq fun K10 hK10 => ?_
    refine Tri.region ?_
    refine st (OK1.load (Has.t rfl) (i := 0) rfl ty44 rfl (Ss' := [_, _]) rfl) rfl ?_
    refine Ops.store (Has.t rfl) (Has.t rfl) (i := 1) rfl ty44 rfl rfl (Ss' := [_, _]) rfl (M' := [_, (some _, cellM [_, _])]) rfl ?_
    refine nl ?_
    refine At.thn (hK10 _ _ ?_); clear hK10
    refine Tri.cv (Cv.wk (.cons (t := 2) (Has.t rfl) .nil)) ?_
    refine Tri.ret ?_
    refine rt1 (.inl rfl) Try.results131 rfl (.cell rfl (i := 1) rfl ty44 rfl ?_ .nil)
    all_goals (exact isZ_eq (by rw [show i = (vals xs).length by omega, List.take_length]))
set_option maxHeartbeats 4000000 in
theorem zpoly_Primitive {xs : List (Bool × List Nat)} {K : Nat} (hx : Bd (vals xs) K) (hK : K ≤ 400000000) (hn : xs.length ≤ 400000) : Ctr Try.prog 132 [SlK 2 zc xs] (isP (prim (vals xs))) := by
  refine Ctr.intro Try.func132 rfl (by kernel_rfl) Try.ntmps132 rfl fun w0 F0 => ?_
  refine Tri.cv (Cv.wk (.cons (t := 0) (Has.t rfl) .nil)) ?_
  refine Tri.fact (Has.lenLt (Has.t (t := 0) rfl)) fun lt0 => ?_
  obtain ⟨A, hA⟩ : ∃ A, A = pnorm (vals xs) := ⟨_, rfl⟩
  have hAl : A.length ≤ xs.length := by rw [hA, ← vals_len xs]; exact norm_len _
  have bA : Bd A K := by rw [hA]; exact hx.norm
  have hAn : pnorm A = A := by rw [hA]; exact norm_norm _
  have hAm : (A.map nz).length = A.length := List.length_map _
  obtain ⟨F, hF⟩ : ∃ F, F = A.map fun x => x.tdiv (scont A) := ⟨_, rfl⟩
  have hFl : F.length = A.length := by rw [hF, List.length_map]
  have hsb : (List.length (words (scont A).natAbs)) ≤ K := by rw [scont_abs]; exact cont_nw' bA
  refine Tri.seq fun K1 hK1 => ?_
  refine Tri.region ?_
  refine st (OK1.as (Has.cWK (k := 2) (fk := zc))) rfl ?_
  refine nl ?_
  refine At.thn (hK1 _ _ ?_); clear hK1
  refine Tri.seq fun K2 hK2 => ?_
  refine Tri.region ?_
  refine st (OK1.mv (Has.t rfl)) rfl ?_
  refine st (OK1.eq (OK1.call (zpoly_Norm hx (by omega) (by omega)) (.cons (Has.t rfl) .nil)) ((show isP (pnorm (vals xs)) = isP A from isP_eq hA.symm))) rfl ?_
  refine st (OK1.as (Has.t rfl)) rfl ?_
  refine nl ?_
  refine At.thn (hK2 _ _ ?_); clear hK2
  refine Tri.seq fun K3 hK3 => ?_
  refine Tri.seq fun K4 hK4 => ?_
  refine Tri.region ?_
  refine st (OK1.mv (Has.t rfl)) rfl ?_
  refine st (OK1.len sl34 (Has.t rfl)) rfl ?_
  refine st (OK1.eqI (Has.t rfl) (Has.cI 0 rfl)) rfl ?_
  refine nl ?_
  refine At.thn (hK4 _ _ ?_); clear hK4
  refine Tri.cond (Has.t rfl) (fun hc1 => ?_) (fun hc1 => ?_)
  · have hc1 := BP.t hc1
    have HE := hc1
    refine Tri.seq fun K5 hK5 => ?_
    refine Tri.region ?_
    refine st (OK1.as (Has.cWK (k := 2) (fk := zc))) rfl ?_
    refine nl ?_
    refine At.thn (hK5 _ _ ?_); clear hK5
    refine Tri.cv (Cv.wk (.cons (t := 0) (Has.t rfl) (.cons (t := 2) (Has.t rfl) .nil))) ?_
    refine Tri.ret ?_
    refine At.thr ?_
    refine rt1 (.inl rfl) Try.results132 rfl (.tmp (Has.t' rfl ?_) .nil)
    all_goals (exact isP_nil (by unfold prim; rw [← hA, List.eq_nil_of_length_eq_zero (show A.length = 0 by omega)]; rfl))
  · have hc1 := BP.f hc1
    have HE := hc1
    rw [hAm] at HE
    have hA0 : 0 < A.length := Nat.pos_of_ne_zero (by omega)
    have hsn : scont A ≠ 0 := scont_ne (List.length_pos_iff.1 hA0) hAn
    refine Tri.skip ?_
    refine At.thn (hK3 _ _ ?_); clear hK3
    refine Tri.cv (Cv.wk (.cons (t := 0) (Has.t rfl) (.cons (t := 2) (Has.t rfl) .nil))) ?_
    refine Tri.seq fun K6 hK6 => ?_
    refine Tri.region ?_
    refine st (OK1.mv (Has.t rfl)) rfl ?_
    refine st (OK1.eq (OK1.call (zpoly_Content (K := K) (by rw [vals_nz]; exact bA) (by omega)) (.cons (Has.t rfl) .nil)) (by (try simp only [getD_nz]); (try simp only [vals_nz]); (try simp only [zv_nz]); (try simp only [zv_nf]); rfl)) rfl ?_
    refine Ops.alloc [isB false, SlM isU []] zero44 (fun _ _ => ⟨rfl, nilM _ _, trivial⟩) rfl fun b1 => ?_
    refine Ops.store (Has.t rfl) (Has.t rfl) (i := 0) rfl ty44 rfl rfl (Ss' := [_, _]) rfl (M' := [(some _, cellM [_, _])]) rfl ?_
    refine nl ?_
    refine At.thn (hK6 _ _ ?_); clear hK6
    refine Tri.cutF [0, 2, 3] (fun (_ : Unit) => []) (fun M => fun (_ : Unit) => [zM b1 (scont A)]) (fun K7 hK7 => ?_) ?_
    · skip
      refine Tri.seq fun K8 hK8 => ?_
      refine Tri.region ?_
      refine st (OK1.mv (Has.t rfl)) rfl ?_
      refine st (OK1.mv (Has.t rfl)) rfl ?_
      refine st (OK1.len sl34 (Has.t rfl)) rfl ?_
      refine st (OK1.subI (Has.t rfl) (Has.cI 1 rfl) (by first | omega | assumption) (by first | omega | assumption)) rfl ?_
      refine st (OK1.ixK sl34 ty44 (Has.t rfl) (Has.t rfl) zc_len ⟨by omega, by omega⟩ (getD_some (d := (false, [])) (by first | omega | (simp only [Int.toNat_natCast, List.length_set]; omega)))) rfl ?_
      refine st (OK1.eq (OK1.loadP (Has.t rfl) ty44 rfl (Ss' := [_, _]) rfl) ((zc_eq (q := nz (cf A (A.length - 1))) (by rw [getD_nz]; congr 2; omega)))) rfl ?_
      refine st (OK1.eq (OK1.call (zint_Sign (by rw [val_words]; have := bA (A.length - 1); omega)) (.cons (Has.t rfl) .nil)) (by (try simp only [getD_nz]); (try simp only [vals_nz]); (try simp only [zv_nz]); (try simp only [zv_nf]); rfl)) rfl ?_
      refine st (OK1.ltI (Has.t rfl) (Has.cI 0 rfl)) rfl ?_
      refine nl ?_
      refine At.thn (hK8 _ _ ?_); clear hK8
      refine Tri.cv (Cv.wk (.cons (t := 0) (Has.t rfl) (.cons (t := 2) (Has.t rfl) (.cons (t := 3) (Has.t rfl) (.cons (t := 21) (Has.t rfl) .nil))))) ?_
      refine Tri.cond (Has.t rfl) (fun hc2 => ?_) (fun hc2 => ?_)
      · have hc2 := BP.t hc2
        have HS := (sgn_lt _).1 hc2
        refine Tri.region ?_
        refine st (OK1.load (Has.t rfl) (i := 0) rfl ty44 rfl (Ss' := [_, _]) rfl) rfl ?_
        refine st (OK1.eq (OK1.call (zint_Neg (by rw [val_words]; have := cont_nw' bA; rw [Int.natAbs_natCast]; omega)) (.cons (Has.t rfl) .nil)) (by (try simp only [getD_nz]); (try simp only [vals_nz]); (try simp only [zv_nz]); (try simp only [zv_nf]); rfl)) rfl ?_
        refine Ops.store (Has.t rfl) (Has.t rfl) (i := 0) rfl ty44 rfl rfl (Ss' := [_, _]) rfl (M' := [(some _, cellM [_, _])]) rfl ?_
        refine nl ?_
        refine At.thn ?_
        refine hK7 (()) _ _ (Cv.mem (.cons (t := 0) (Has.t rfl) (.cons (t := 2) (Has.t rfl) (.cons (t := 3) (Has.t rfl) .nil))) ?_)
        · exact zM_eq (by unfold scont; rw [if_pos HS]) rfl
      · have hc2 := BP.f hc2
        have HS : ¬ cf A (A.length - 1) < 0 := fun h => by have := (sgn_lt _).2 h; omega
        refine Tri.skip ?_
        refine At.thn ?_
        refine hK7 (()) _ _ (Cv.mem (.cons (t := 0) (Has.t rfl) (.cons (t := 2) (Has.t rfl) (.cons (t := 3) (Has.t rfl) .nil))) ?_)
        · exact zM_eq (by unfold scont; rw [if_neg HS]) rfl
    rintro _
    refine Tri.cv (Cv.wk (.cons (t := 0) (Has.t rfl) (.cons (t := 2) (Has.t rfl) (.cons (t := 3) (Has.t rfl) .nil)))) ?_
    refine Tri.memEq (M' := [zM b1 (scont A)]) rfl ?_
    refine Tri.seq fun K9 hK9 => ?_
    refine Tri.region ?_
    refine st (OK1.mv (Has.t rfl)) rfl ?_
    refine st (OK1.eq (OK1.len sl34 (Has.t rfl)) ((show isI _ = isI (A.length : Int) from isI_eq (by omega)))) rfl ?_
    refine Ops.makeK (fk := zc) (u := (false, [])) (n := A.length) (c := A.length) sl34 ty44 zero44 (fun _ _ => ⟨rfl, nilM _ _, trivial⟩) zc_len by44 (Has.t' rfl rfl) (Has.t' rfl rfl) ⟨by omega, by omega⟩ rfl fun b2 => ?_
    refine st (OK1.as (Has.t rfl)) rfl ?_
    refine nl ?_
    refine At.thn (hK9 _ _ ?_); clear hK9
    refine Tri.seq fun K10 hK10 => ?_
    refine Tri.seq fun K11 hK11 => ?_
    refine Tri.region ?_
    refine st (OK1.mv (Has.t rfl)) rfl ?_
    refine st (OK1.len sl34 (Has.t rfl)) rfl ?_
    refine st (OK1.mv (Has.cI 0 rfl)) rfl ?_
    refine nl ?_
    refine At.thn (hK11 _ _ ?_); clear hK11
    refine Tri.block ?_
    refine Tri.loopF [2, 3, 4, 27, 28] (fun (z : { i : Nat // i ≤ A.length }) => match z with | ⟨i, hi⟩ => [(29, isI (i : Int))]) (fun M => fun (z : { i : Nat // i ≤ A.length }) => match z with | ⟨i, hi⟩ => [(some b2, cellM ((fill (F.map nz) i (false, [])).flatMap zc)), zM b1 (scont A)]) (fun (z : { i : Nat // i ≤ A.length }) => match z with | ⟨i, hi⟩ => A.length - i) (⟨0, Nat.zero_le _⟩) (Cv.mem (.cons (t := 29) (Has.t' rfl ?_) (.cons (t := 2) (Has.t rfl) (.cons (t := 3) (Has.t rfl) (.cons (t := 4) (Has.t rfl) (.cons (t := 27) (Has.t rfl) (.cons (t := 28) (Has.t rfl) .nil)))))) ?_) ?_
    · rfl
    · exact memZ_eq (by rw [fill_zero, List.length_map, hFl])
    rintro ⟨i, hi⟩ K12 hK12
    refine Tri.cv (Cv.wk (.cons (t := 29) (Has.t rfl) (.cons (t := 2) (Has.t rfl) (.cons (t := 3) (Has.t rfl) (.cons (t := 4) (Has.t rfl) (.cons (t := 27) (Has.t rfl) (.cons (t := 28) (Has.t rfl) .nil))))))) ?_
    refine Tri.memEq (M' := [(some b2, cellM ((fill (F.map nz) i (false, [])).flatMap zc)), zM b1 (scont A)]) rfl ?_
    refine Tri.seq fun K13 hK13 => ?_
    refine Tri.region ?_
    refine st (OK1.ltI (Has.t rfl) (Has.t rfl)) rfl ?_
    refine nl ?_
    refine At.thn (hK13 _ _ ?_); clear hK13
    refine Tri.seq fun K14 hK14 => ?_
    refine Tri.cond (Has.t rfl) (fun hc3 => ?_) (fun hc3 => ?_)
    · have hc3 := BP.t hc3
      refine Tri.skip ?_
      refine At.thn (hK14 _ _ ?_); clear hK14
      refine Tri.seq fun K15 hK15 => ?_
      refine Tri.block ?_
      refine Tri.seq fun K16 hK16 => ?_
      refine Tri.region ?_
      refine st (OK1.mv (Has.t rfl)) rfl ?_
      refine st (OK1.ixK sl34 ty44 (Has.t rfl) (Has.t rfl) zc_len ⟨by omega, by omega⟩ (getZ (i := i) (by omega))) rfl ?_
      refine st (OK1.loadP (Has.t rfl) ty44 rfl (Ss' := [_, _]) rfl) rfl ?_
      refine Ops.alloc [isB false, SlM isU []] zero44 (fun _ _ => ⟨rfl, nilM _ _, trivial⟩) rfl fun b3 => ?_
      refine st (OK1.as (Has.t rfl)) rfl ?_
      refine Ops.store (Has.t rfl) (Has.t rfl) (i := 0) rfl ty44 rfl rfl (Ss' := [_, _]) rfl (M' := [(some _, cellM [_, _]), _, _]) rfl ?_
      refine nl ?_
      refine At.thn (hK16 _ _ ?_); clear hK16
      refine Tri.region ?_
      refine st (OK1.mv (Has.t rfl)) rfl ?_
      refine st (OK1.mv (Has.t rfl)) rfl ?_
      refine st (OK1.load (Has.t rfl) (i := 0) rfl ty44 rfl (Ss' := [_, _]) rfl) rfl ?_
      refine st (OK1.load (Has.t rfl) (i := 2) rfl ty44 rfl (Ss' := [_, _]) rfl) rfl ?_
      refine st (OK1.eq (OK1.call (zint_Exact (by rw [val_words]; have := bA i; omega) (by rw [val_words]; omega)) (.cons (Has.t rfl) (.cons (Has.t rfl) .nil))) ((exEq (zv_nz _) (zv_nf _)))) rfl ?_
      refine st (OK1.mv (Has.t rfl)) rfl ?_
      refine st (OK1.ext (Has.t rfl) rfl) rfl ?_
      refine st (OK1.ext (Has.t rfl) rfl) rfl ?_
      refine st (OK1.eq (OK1.ixWin sl34 ty44 (Has.t rfl) (Has.t rfl) ⟨by omega, by omega⟩) (isPtr_eq (by first | exact ixo0 | exact ixo2 | exact ixo1))) rfl ?_
      refine Ops.storeK (z := nz (if scont A ≠ 0 ∧ (cf A i).tmod (scont A) = 0 then (cf A i).tdiv (scont A) else 0)) zc_len (Has.t rfl) (Has.t rfl) (i := 1) rfl ty44 (by rw [fill_len _ _ _ (by rw [List.length_map]; omega), List.length_map]; omega) (M' := [_, (_, _), _]) rfl ?_
      refine nl ?_
      refine At.bln ?_
      refine At.thn (hK15 _ _ ?_); clear hK15
      refine Tri.region ?_
      refine st (OK1.addI (Has.t rfl) (Has.cI 1 rfl) (by first | omega | assumption) (by first | omega | assumption)) rfl ?_
      refine st (OK1.mv (Has.t rfl)) rfl ?_
      refine nl ?_
      refine At.thn ?_
      refine hK12 (⟨i + 1, by omega⟩) _ _ ?_ (Cv.trans (Cv.drop ((.cons _ (.cons_cons _ (.cons_cons _ .slnil))))) (Cv.mem (.cons (t := 29) (Has.t' rfl ?_) (.cons (t := 2) (Has.t rfl) (.cons (t := 3) (Has.t rfl) (.cons (t := 4) (Has.t rfl) (.cons (t := 27) (Has.t rfl) (.cons (t := 28) (Has.t rfl) .nil)))))) ?_))
      · show A.length - (i + 1) < A.length - i; omega
      · exact isI_eq (by omega)
      · exact memF_eq (by rw [List.getElem?_map, hF, List.getElem?_map, getElem_cf (by omega), exact_dvd hsn (scont_dvd A i)]; rfl)
    · have hc3 := BP.f hc3
      refine Tri.exit ?_
      refine At.the ?_
      refine At.the ?_
      refine At.blh ?_
      refine At.thn (hK10 _ _ ?_); clear hK10
      refine Tri.cv (Cv.wk (.cons (t := 2) (Has.t rfl) (.cons (t := 4) (Has.t rfl) .nil))) ?_
      refine Tri.seq fun K17 hK17 => ?_
      refine Tri.cv (Cv.freezeK (t := 4) (i := 0) (ys := F.map nz) zc_len rfl rfl rfl (by rw [fill_len _ _ _ (by rw [List.length_map]; omega), List.length_map]; omega) (fill_done (by rw [List.length_map]; omega) (by rw [List.length_map, hFl]))) ?_
      refine Tri.memEq (M' := [_]) rfl ?_
      refine Tri.cv (Cv.wk (.cons (t := 2) (Has.t rfl) (.cons (t := 4) (Has.t rfl) .nil))) ?_
      refine Tri.region ?_
      refine st (OK1.mv (Has.t rfl)) rfl ?_
      refine st (OK1.as (Has.t rfl)) rfl ?_
      refine nl ?_
      refine At.thn (hK17 _ _ ?_); clear hK17
      refine Tri.ret ?_
      refine rt1 (.inl rfl) Try.results132 rfl (.tmp (Has.t' rfl ?_) .nil)
      all_goals (exact isP_eq (by unfold prim; rw [← hA]; exact hF))
set_option maxHeartbeats 4000000 in
theorem zpoly_Of {xs : List Int} (hn : xs.length ≤ 400000) : Ctr Try.prog 51 [SlM isI xs] (isP (pnorm xs)) := by
  refine Ctr.intro Try.func51 rfl (by kernel_rfl) Try.ntmps51 rfl fun w0 F0 => ?_
  refine Tri.cv (Cv.wk (.cons (t := 0) (Has.t rfl) .nil)) ?_
  refine Tri.fact (Has.lenLt (Has.t (t := 0) rfl)) fun lt0 => ?_
  refine Tri.fact (Has.okI (Has.t (t := 0) rfl)) fun hr => ?_
  refine Tri.seq fun K1 hK1 => ?_
  refine Tri.region ?_
  refine st (OK1.as (Has.cWK (k := 2) (fk := zc))) rfl ?_
  refine nl ?_
  refine At.thn (hK1 _ _ ?_); clear hK1
  refine Tri.seq fun K2 hK2 => ?_
  refine Tri.region ?_
  refine Ops.cv (Cv.grow0K (α := Bool × List Nat) zc) ?_
  refine st (OK1.as (Has.cGr (α := Bool × List Nat))) rfl ?_
  refine nl ?_
  refine At.thn (hK2 _ _ ?_); clear hK2
  refine Tri.seq fun K3 hK3 => ?_
  refine Tri.seq fun K4 hK4 => ?_
  refine Tri.region ?_
  refine st (OK1.mv (Has.t rfl)) rfl ?_
  refine st (OK1.len sl117 (Has.t rfl)) rfl ?_
  refine st (OK1.mv (Has.cI 0 rfl)) rfl ?_
  refine nl ?_
  refine At.thn (hK4 _ _ ?_); clear hK4
  refine Tri.block ?_
  refine Tri.loopF [2, 6, 7] (fun (z : { z : Nat × Gr (Bool × List Nat) // z.1 ≤ xs.length }) => match z with | ⟨(i, g), hI⟩ => [(8, isI (i : Int)), (3, isGr g ((xs.take i).map nz).length)]) (fun M => fun (z : { z : Nat × Gr (Bool × List Nat) // z.1 ≤ xs.length }) => match z with | ⟨(i, g), hI⟩ => [grMK zc g ((xs.take i).map nz)]) (fun (z : { z : Nat × Gr (Bool × List Nat) // z.1 ≤ xs.length }) => match z with | ⟨(i, g), hI⟩ => xs.length - i) (⟨(0, Gr.nil), Nat.zero_le _⟩) (Cv.mem (.cons (t := 8) (Has.t' rfl ?_) (.cons (t := 3) (Has.t' rfl ?_) (.cons (t := 2) (Has.t rfl) (.cons (t := 6) (Has.t rfl) (.cons (t := 7) (Has.t rfl) .nil))))) ?_) ?_
  · rfl
  · rfl
  · rfl
  rintro ⟨⟨i, g⟩, hI⟩ K5 hK5
  refine Tri.cv (Cv.wk (.cons (t := 8) (Has.t rfl) (.cons (t := 3) (Has.t rfl) (.cons (t := 2) (Has.t rfl) (.cons (t := 6) (Has.t rfl) (.cons (t := 7) (Has.t rfl) .nil)))))) ?_
  refine Tri.memEq (M' := [grMK zc g ((xs.take i).map nz)]) rfl ?_
  simp only [] at hI
  have hyl : ((xs.take i).map nz).length = i := by rw [List.length_map, List.length_take]; omega
  refine Tri.seq fun K6 hK6 => ?_
  refine Tri.region ?_
  refine st (OK1.ltI (Has.t rfl) (Has.t rfl)) rfl ?_
  refine nl ?_
  refine At.thn (hK6 _ _ ?_); clear hK6
  refine Tri.seq fun K7 hK7 => ?_
  refine Tri.cond (Has.t rfl) (fun hc1 => ?_) (fun hc1 => ?_)
  · have hc1 := BP.t hc1
    refine Tri.skip ?_
    refine At.thn (hK7 _ _ ?_); clear hK7
    refine Tri.seq fun K8 hK8 => ?_
    refine Tri.block ?_
    refine Tri.seq fun K9 hK9 => ?_
    refine Tri.region ?_
    refine st (OK1.ixP sl117 ty2 (Has.t rfl) (Has.t rfl) ⟨by omega, by omega⟩ (getD_some (d := 0) (by first | omega | (simp only [Int.toNat_natCast, List.length_set]; omega)))) rfl ?_
    refine st (OK1.loadP1 (Has.t rfl) ty2) rfl ?_
    refine st (OK1.as (Has.t rfl)) rfl ?_
    refine nl ?_
    refine At.thn (hK9 _ _ ?_); clear hK9
    refine Tri.region ?_
    refine st (OK1.mv (Has.t rfl)) rfl ?_
    refine st (OK1.mv (Has.t rfl)) rfl ?_
    refine st (OK1.eq (OK1.call (zint_Of) (.cons (Has.t rfl) .nil)) ((show isZ _ = Flat (zc (nz (cf xs i))) from rfl))) rfl ?_
    refine st (OK1.buildS [isB false, SlM isU []] sl34 ty44 zero44 (fun _ _ => ⟨rfl, nilM _ _, trivial⟩) rfl rfl (.cons (Has.t rfl) rfl rfl rfl .nil) rfl (S := SlK 2 zc [nz (cf xs i)]) rfl) rfl ?_
    refine Ops.appendGK (fk := zc) (u := (false, [])) zc_len (by decide) (fun _ => inferInstance) sl34 ty44 zero44 (fun _ _ => ⟨rfl, nilM _ _, trivial⟩) by44 (Has.t rfl) (i := 0) rfl (Has.t rfl) (by rw [hyl]; show i + 1 ≤ _; omega) (by simp) rfl fun gr1 => ?_
    refine Ops.memEq (M' := [grMK _ _ _]) rfl ?_
    refine st (OK1.as (Has.t rfl)) rfl ?_
    refine nl ?_
    refine At.bln ?_
    refine At.thn (hK8 _ _ ?_); clear hK8
    refine Tri.region ?_
    refine st (OK1.addI (Has.t rfl) (Has.cI 1 rfl) (by first | omega | assumption) (by first | omega | assumption)) rfl ?_
    refine st (OK1.mv (Has.t rfl)) rfl ?_
    refine nl ?_
    refine At.thn ?_
    refine hK5 (⟨(i + 1, gr1), by show i + 1 ≤ _; omega⟩) _ _ ?_ (Cv.mem (.cons (t := 8) (Has.t' rfl ?_) (.cons (t := 3) (Has.t' rfl ?_) (.cons (t := 2) (Has.t rfl) (.cons (t := 6) (Has.t rfl) (.cons (t := 7) (Has.t rfl) .nil))))) ?_)
    · show xs.length - (i + 1) < xs.length - i; omega
    · exact isI_eq (by omega)
    · exact isGr_eq (by rw [← take_map_succ _ _ (by omega), List.length_append])
    · exact grMK_eq (take_map_succ _ _ (by omega))
  · have hc1 := BP.f hc1
    refine Tri.exit ?_
    refine At.the ?_
    refine At.the ?_
    refine At.blh ?_
    refine At.thn (hK3 _ _ ?_); clear hK3
    refine Tri.seq fun K10 hK10 => ?_
    refine Tri.cv (Cv.freezeGK (t := 3) (i := 0) (ys := (xs.take i).map nz) zc_len rfl rfl rfl) ?_
    refine Tri.memEq (M' := []) rfl ?_
    refine Tri.cv (Cv.wk (.cons (t := 2) (Has.t rfl) (.cons (t := 6) (Has.t rfl) (.cons (t := 7) (Has.t rfl) (.cons (t := 8) (Has.t rfl) (.cons (t := 3) (Has.t rfl) (.cons (t := 9) (Has.t rfl) .nil))))))) ?_
    refine Tri.region ?_
    refine st (OK1.mv (Has.t rfl)) rfl ?_
    refine st (OK1.call (zpoly_Norm (K := 1) (by rw [vals_nz, show xs.take i = xs from List.take_of_length_le (by omega)]; exact bd64 hr) (by omega) (by rw [List.length_map, List.length_take]; omega)) (.cons (Has.t rfl) .nil)) rfl ?_
    refine st (OK1.as (Has.t rfl)) rfl ?_
    refine nl ?_
    refine At.thn (hK10 _ _ ?_); clear hK10
    refine Tri.cv (Cv.wk (.cons (t := 2) (Has.t rfl) .nil)) ?_
    refine Tri.ret ?_
    refine rt1 (.inl rfl) Try.results51 rfl (.tmp (Has.t' rfl ?_) .nil)
    all_goals (exact isP_eq (by rw [vals_nz, show xs.take i = xs from List.take_of_length_le (by omega)]))
end Go.Proofs.Ytgkbekcpmbjbdaa
/- Polynomials over the whole numbers: the rounds that make the greatest common divisor. No program here. -/
namespace Go.Pz
open Go.Nt Go.En
theorem prim_len (l : List Int) : (prim l).length = (pnorm l).length := by unfold prim; rw [List.length_map]
theorem prim_norm (l : List Int) : pnorm (prim l) = prim l := by
  have h : (prim l).take (prim l).length = pnorm (prim l) := by
    refine take_norm ?_ (fun i hi => cf_high hi)
    rcases Nat.eq_zero_or_pos (prim l).length with h | h
    · exact .inl h
    · right
      intro e
      have hb := prim_back l ((prim l).length - 1)
      rw [e, Int.zero_mul, prim_len] at hb
      exact norm_last (by intro h2; rw [prim_len, h2] at h; exact absurd h (by decide)) hb.symm
  rw [List.take_length] at h
  exact h.symm
theorem Bd.prim {l : List Int} {K : Nat} (h : Bd l K) : Bd (prim l) K := fun i => by
  rw [cf_prim]; exact Nat.le_trans (nz_tdiv _ _) (h i)
/-- the rest's degree -/
theorem psd_rest_len {a b : List Int} (hb : pnorm b ≠ []) : (psd a b).2.length < (pnorm b).length := by
  have hp : 0 < (pnorm b).length := List.length_pos_iff.2 hb
  have h := (pseudo_spec (a := a) hb).2
  have hn := (psd_norm a b).2
  have e : (psd a b).2 = (pseudo a b).2 := by unfold psd; rw [if_neg hb]
  rw [← e] at h
  rcases Nat.lt_or_ge (psd a b).2.length (pnorm b).length with h2 | h2
  · exact h2
  · exfalso
    have hne : pnorm (psd a b).2 ≠ [] := by rw [hn]; intro e2; rw [e2, List.length_nil] at h2; omega
    exact norm_last hne (by rw [hn]; exact h _ (by omega))
theorem psd_bd' {a b : List Int} {K : Nat} (ha : Bd a K) (hb : Bd b K) : Bd (psd a b).2 (K + ((pnorm a).length + 1 - (pnorm b).length) * (K + 1)) := by
  have h : ∀ (m0 n : Nat) (q r : List Int), m0 = (pnorm a).length + 1 - (pnorm b).length → PsI (cf (pnorm b) ((pnorm b).length - 1)) (pnorm b) (pnorm a) K K m0 n q r → Bd (pseudoGo (cf (pnorm b) ((pnorm b).length - 1)) (pnorm b) n q r).2 (K + m0 * (K + 1)) := by
    intro m0 n
    induction n with
    | zero => intro q r _ p; exact p.bnd.2
    | succ n ih =>
      intro q r hm p
      have := p.le
      exact ih _ _ hm (p.step (by rw [cf_norm]; exact hb _) hb.norm (by omega))
  unfold psd
  split
  · exact Bd.nil _
  · exact h _ _ [] (pnorm a) rfl (PsI.start ha.norm (norm_norm _))
/-- the rounds -/
def pgcdGo : Nat → List Int → List Int → List Int
  | 0, a, _ => a
  | n + 1, a, b => if b = [] then a else pgcdGo n b (prim (psd a b).2)
def pgcd (a b : List Int) : List Int := pscale (pgcdGo (prim b).length (prim a) (prim b)) (Nat.gcd (cont a) (cont b) : Nat)
theorem pgcdGo_nil (n : Nat) (a : List Int) : pgcdGo n a [] = a := by cases n <;> rfl
structure GcI (C : Nat) (g : List Int) (n : Nat) (a b : List Int) : Prop where
  go : pgcdGo n a b = g
  le : b.length ≤ n
  na : pnorm a = a
  nb : pnorm b = b
  sz : ∃ K, Bd a K ∧ Bd b K ∧ ((b.length < a.length ∧ (K + 1) * 3 ^ a.length ≤ C) ∨ 2 * (K + 1) * 3 ^ (max a.length b.length) ≤ C)
theorem le_three' : ∀ d : Nat, d + 3 ≤ 3 * 3 ^ d
  | 0 => by decide
  | d + 1 => by rw [Nat.pow_succ]; have := le_three' d; omega
theorem le_pow3 (d : Nat) : d ≤ 3 ^ d := Nat.le_of_lt (Nat.lt_pow_self (by decide))
theorem GcI.start {a b : List Int} {K C : Nat} (ha : Bd a K) (hb : Bd b K) (na : pnorm a = a) (nb : pnorm b = b) (hC : 2 * (K + 1) * 3 ^ (max a.length b.length) ≤ C) : GcI C (pgcdGo b.length a b) b.length a b :=
  ⟨rfl, Nat.le_refl _, na, nb, K, ha, hb, .inr hC⟩
theorem GcI.step {C n : Nat} {g a b : List Int} (p : GcI C g n a b) (h : b ≠ []) : 0 < n ∧ GcI C g (n - 1) b (prim (psd a b).2) := by
  obtain ⟨K, ka, kb, ks⟩ := p.sz
  have hl : 0 < b.length := List.length_pos_iff.2 h
  have hle := p.le
  obtain ⟨m, rfl⟩ : ∃ m, n = m + 1 := ⟨n - 1, by omega⟩
  have hr := psd_rest_len (a := a) (b := b) (by rw [p.nb]; exact h)
  rw [p.nb] at hr
  have hpl : (prim (psd a b).2).length < b.length := by
    rw [prim_len]; exact Nat.lt_of_le_of_lt (norm_len _) hr
  have hbd := psd_bd' ka kb
  rw [p.na, p.nb] at hbd
  have hg := p.go
  unfold pgcdGo at hg
  rw [if_neg h] at hg
  refine ⟨by omega, hg, by show _ ≤ m; omega, p.nb, prim_norm _, K + (a.length + 1 - b.length) * (K + 1), kb.mono (by omega), hbd.prim, .inl ⟨hpl, ?_⟩⟩
  have e1 : K + (a.length + 1 - b.length) * (K + 1) + 1 = (a.length + 1 - b.length + 1) * (K + 1) := by rw [Nat.succ_mul]; omega
  rw [e1]
  rcases ks with ⟨h1, h2⟩ | h2
  · obtain ⟨d, hd⟩ : ∃ d, a.length = b.length + (d + 1) := ⟨a.length - b.length - 1, by omega⟩
    have e2 : a.length + 1 - b.length + 1 = d + 3 := by omega
    rw [e2]
    have h3 : d + 3 ≤ 3 ^ (d + 1) := by have := le_three' d; rw [Nat.pow_succ]; omega
    rw [hd, Nat.pow_add] at h2
    calc (d + 3) * (K + 1) * 3 ^ b.length ≤ 3 ^ (d + 1) * (K + 1) * 3 ^ b.length := Nat.mul_le_mul_right _ (Nat.mul_le_mul_right _ h3)
      _ = (K + 1) * (3 ^ b.length * 3 ^ (d + 1)) := by rw [Nat.mul_comm (3 ^ (d + 1)), Nat.mul_assoc, Nat.mul_comm (3 ^ b.length)]
      _ ≤ C := h2
  · rcases Nat.lt_or_ge b.length a.length with h1 | h1
    · obtain ⟨d, hd⟩ : ∃ d, a.length = b.length + (d + 1) := ⟨a.length - b.length - 1, by omega⟩
      have e2 : a.length + 1 - b.length + 1 = d + 3 := by omega
      rw [e2]
      have h3 : d + 3 ≤ 3 ^ (d + 1) := by have := le_three' d; rw [Nat.pow_succ]; omega
      rw [Nat.max_eq_left (by omega), hd, Nat.pow_add, Nat.mul_assoc] at h2
      calc (d + 3) * (K + 1) * 3 ^ b.length ≤ 3 ^ (d + 1) * (K + 1) * 3 ^ b.length := Nat.mul_le_mul_right _ (Nat.mul_le_mul_right _ h3)
        _ = (K + 1) * (3 ^ b.length * 3 ^ (d + 1)) := by rw [Nat.mul_comm (3 ^ (d + 1)), Nat.mul_assoc, Nat.mul_comm (3 ^ b.length)]
        _ ≤ C := by omega
    · rw [Nat.max_eq_right h1] at h2
      exact Nat.le_trans (Nat.mul_le_mul_right _ (Nat.mul_le_mul_right _ (by omega))) h2
theorem GcI.bnd {C n : Nat} {g a b : List Int} (p : GcI C g n a b) : ∃ K, Bd a K ∧ Bd b K ∧ K + (a.length + 2) * (K + 1) ≤ 3 * C ∧ a.length ≤ C ∧ b.length ≤ C ∧ K ≤ C := by
  obtain ⟨K, ka, kb, ks⟩ := p.sz
  refine ⟨K, ka, kb, ?_⟩
  have e : K + (a.length + 2) * (K + 1) ≤ (a.length + 3) * (K + 1) := by rw [Nat.succ_mul (a.length + 2)]; omega
  have h3 := Nat.mul_le_mul_right (K + 1) (le_three' a.length)
  have hc : (K + 1) * 3 ^ a.length ≤ C ∧ b.length ≤ C := by
    rcases ks with ⟨h1, h2⟩ | h2
    · have h4 : a.length ≤ 3 ^ a.length := le_pow3 _
      have h5 := Nat.mul_le_mul (show 1 ≤ K + 1 by omega) h4
      exact ⟨h2, by omega⟩
    · have h4 : b.length ≤ 3 ^ max a.length b.length := Nat.le_trans (le_pow3 _) (Nat.pow_le_pow_right (by decide) (Nat.le_max_right _ _))
      have h5 : 3 ^ a.length ≤ 3 ^ max a.length b.length := Nat.pow_le_pow_right (by decide) (Nat.le_max_left _ _)
      have h6 := Nat.mul_le_mul_left (K + 1) h5
      have h7 := Nat.mul_le_mul (show 1 ≤ K + 1 by omega) h4
      rw [Nat.mul_assoc] at h2
      exact ⟨by omega, by omega⟩
  have e2 : 3 * 3 ^ a.length * (K + 1) = 3 * ((K + 1) * 3 ^ a.length) := by rw [Nat.mul_assoc, Nat.mul_comm (3 ^ a.length)]
  have h4 : a.length ≤ 3 ^ a.length := le_pow3 _
  have h5 := Nat.mul_le_mul (show 1 ≤ K + 1 by omega) h4
  have h6 := Nat.mul_le_mul (Nat.le_refl (K + 1)) (Nat.one_le_pow a.length 3 (by decide))
  exact ⟨by omega, by omega, hc.2, by omega⟩
end Go.Pz
/- Polynomials over the whole numbers: what the document's answers are. No program here, but the numbers' cells. -/
namespace Go.Pz
open Go.Nt Go.En
def radd (a b : List Int) : List Int := (List.range (max a.length b.length)).map fun i => cf a i + cf b i
theorem cf_radd (a b : List Int) (i : Nat) : cf (radd a b) i = cf a i + cf b i := by
  unfold radd
  rw [cf_tab]
  split
  · rfl
  · rw [cf_high (l := a) (by omega), cf_high (l := b) (by omega)]; rfl
def rmul (a b : List Int) : List Int := (List.range (a.length + b.length)).map fun n => mul (cf a) (cf b) n
theorem cf_rmul (a b : List Int) (i : Nat) : cf (rmul a b) i = mul (cf a) (cf b) i := by
  unfold rmul
  rw [cf_tab]
  split
  · rfl
  · exact (mul_high (A := a.length) (B := b.length) (fun i hi => cf_high hi) (fun i hi => cf_high hi) (by omega)).symm
theorem Bd.radd {a b : List Int} {K : Nat} (h : Bd a K) (k : Bd b K) : Bd (radd a b) (K + 1) := fun i => by
  rw [cf_radd]; have := nz_add (cf a i) (cf b i); have := h i; have := k i; omega
theorem Bd.rmul {a b : List Int} {K L : Nat} (h : Bd a K) (k : Bd b L) : Bd (rmul a b) (K + L + a.length) := fun i => by
  rw [cf_rmul, ← cf_pmul]; exact (Bd.mul h k) i
/-- lists of a size that is looked at -/
def fewB (xs : List (Bool × List Nat)) (n w : Int) : Bool := (xs.take 100).all (fun p => decide ((p.2.length : Int) ≤ w)) && decide ((xs.length : Int) ≤ n)
theorem fewB_no {xs : List (Bool × List Nat)} {n w : Int} {i : Nat} (hi : i < xs.length) (h1 : i < 100) (h : ¬ ((xs.getD i (false, [])).2.length : Int) ≤ w) : fewB xs n w = false := by
  unfold fewB
  have hm : xs.getD i (false, []) ∈ xs.take 100 := by
    rw [List.getD, List.getElem?_eq_getElem hi]
    exact List.mem_take_iff_getElem.2 ⟨i, by omega, rfl⟩
  have : (xs.take 100).all (fun p => decide ((p.2.length : Int) ≤ w)) = false := by
    rw [List.all_eq_false]
    exact ⟨_, hm, by rw [decide_eq_true_eq]; exact h⟩
  rw [this]; rfl
theorem fewB_yes {xs : List (Bool × List Nat)} {n w : Int} {i : Nat} (hi : xs.length ≤ i ∨ 100 ≤ i) (h : ∀ j, j < i → ((xs.getD j (false, [])).2.length : Int) ≤ w) : fewB xs n w = decide ((xs.length : Int) ≤ n) := by
  unfold fewB
  have : (xs.take 100).all (fun p => decide ((p.2.length : Int) ≤ w)) = true := by
    rw [List.all_eq_true]
    intro p hp
    obtain ⟨j, hj, rfl⟩ := List.mem_take_iff_getElem.1 hp
    have := h j (by omega)
    rw [List.getD, List.getElem?_eq_getElem (by omega)] at this
    exact decide_eq_true this
  rw [this]; rfl
theorem fewB_bd {xs : List (Bool × List Nat)} {n w : Int} {N K : Nat} (ok : ∀ p ∈ xs, (∀ y ∈ p.2, y < 18446744073709551616) ∧ p.2.length ≤ 9223372036854775807) (h : fewB xs n w = true) (hn : n = (N : Int)) (hw : w = (K : Int)) (h1 : N ≤ 100) : xs.length ≤ N ∧ Bd (vals xs) K := by
  unfold fewB at h
  rw [Bool.and_eq_true, decide_eq_true_eq, List.all_eq_true] at h
  subst hn; subst hw
  refine ⟨by omega, fun i => ?_⟩
  rw [cf_vals, zv_nw]
  rcases Nat.lt_or_ge i xs.length with hi | hi
  · rw [List.getD, List.getElem?_eq_getElem hi]
    have h2 := h.1 xs[i] (List.mem_take_iff_getElem.2 ⟨i, by omega, rfl⟩)
    rw [decide_eq_true_eq] at h2
    exact Nat.le_trans (nw_val (ok _ (List.getElem_mem hi)).1) (by show xs[i].2.length ≤ K; omega)
  · rw [List.getD, List.getElem?_eq_none (by omega)]
    show (List.length (words (val []))) ≤ K
    rw [show val [] = 0 from rfl, words_zero]; exact Nat.zero_le _
end Go.Pz
/- Contracts: the document's answers on polynomials. -/
namespace Go.Proofs.Ytgkbekcpmbjbdaa
open Go.En Go.RowKit
set_option linter.unusedVariables false
set_option maxRecDepth 10000
open Go.Nt
open Go.Pz
set_option maxHeartbeats 4000000 in
theorem ref10_Few {xs : List (Bool × List Nat)} {n w : Int} : Ctr Try.prog 16 [SlK 2 zc xs, isI n, isI w] (isB (fewB xs n w)) := by
  refine Ctr.intro Try.func16 rfl (by kernel_rfl) Try.ntmps16 rfl fun w0 F0 => ?_
  refine Tri.cv (Cv.wk (.cons (t := 0) (Has.t rfl) (.cons (t := 1) (Has.t rfl) (.cons (t := 2) (Has.t rfl) .nil)))) ?_
  refine Tri.fact (Has.lenLt (Has.t (t := 0) rfl)) fun lt0 => ?_
  refine Tri.fact (Has.rngI (Has.t (t := 1) rfl)) fun lt1 => ?_
  refine Tri.fact (Has.rngI (Has.t (t := 2) rfl)) fun lt2 => ?_
  refine Tri.seq fun K1 hK1 => ?_
  refine Tri.region ?_
  refine st (OK1.as (Has.cB false)) rfl ?_
  refine nl ?_
  refine At.thn (hK1 _ _ ?_); clear hK1
  refine Tri.seq fun K2 hK2 => ?_
  refine Tri.seq fun K3 hK3 => ?_
  refine Tri.region ?_
  refine st (OK1.as (Has.cI 0 rfl)) rfl ?_
  refine nl ?_
  refine At.thn (hK3 _ _ ?_); clear hK3
  refine Tri.block ?_
  refine Tri.loopF [0, 1, 2] (fun (z : { i : Nat // i ≤ xs.length ∧ i ≤ 100 ∧ ∀ j, j < i → ((xs.getD j (false, [])).2.length : Int) ≤ w }) => match z with | ⟨i, hi⟩ => [(7, isI (i : Int))]) (fun M => fun (z : { i : Nat // i ≤ xs.length ∧ i ≤ 100 ∧ ∀ j, j < i → ((xs.getD j (false, [])).2.length : Int) ≤ w }) => match z with | ⟨i, hi⟩ => []) (fun (z : { i : Nat // i ≤ xs.length ∧ i ≤ 100 ∧ ∀ j, j < i → ((xs.getD j (false, [])).2.length : Int) ≤ w }) => match z with | ⟨i, hi⟩ => xs.length - i) (⟨0, Nat.zero_le _, by omega, fun j h => absurd h (Nat.not_lt_zero _)⟩) (Cv.mem (.cons (t := 7) (Has.t' rfl ?_) (.cons (t := 0) (Has.t rfl) (.cons (t := 1) (Has.t rfl) (.cons (t := 2) (Has.t rfl) .nil)))) ?_) ?_
  · rfl
  · rfl
  rintro ⟨i, hi, h1, hj⟩ K4 hK4
  refine Tri.cv (Cv.wk (.cons (t := 7) (Has.t rfl) (.cons (t := 0) (Has.t rfl) (.cons (t := 1) (Has.t rfl) (.cons (t := 2) (Has.t rfl) .nil))))) ?_
  refine Tri.memEq (M' := []) rfl ?_
  refine Tri.seq fun K5 hK5 => ?_
  refine Tri.seq fun K6 hK6 => ?_
  refine Tri.region ?_
  refine st (OK1.mv (Has.t rfl)) rfl ?_
  refine st (OK1.mv (Has.t rfl)) rfl ?_
  refine st (OK1.len sl22 (Has.t rfl)) rfl ?_
  refine st (OK1.ltI (Has.t rfl) (Has.t rfl)) rfl ?_
  refine st (OK1.mv (Has.t rfl)) rfl ?_
  refine stT rfl rfl (fun hg => have hg' := BP.t hg; OK1.mv (Has.t rfl)) rfl ?_
  refine stT rfl rfl (fun hg => have hg' := BP.t hg; OK1.ltI (Has.g rfl hg) (Has.cI 100 rfl)) rfl ?_
  refine st (OK1.pickAnd (Has.t rfl) (fun h => Has.g rfl h)) rfl ?_
  refine nl ?_
  refine At.thn (hK6 _ _ ?_); clear hK6
  refine Tri.cond (Has.t rfl) (fun hc1 => ?_) (fun hc1 => ?_)
  · have hc1 := BP.t hc1
    refine Tri.skip ?_
    refine At.thn (hK5 _ _ ?_); clear hK5
    refine Tri.seq fun K7 hK7 => ?_
    refine Tri.block ?_
    refine Tri.seq fun K8 hK8 => ?_
    refine Tri.region ?_
    refine st (OK1.mv (Has.t rfl)) rfl ?_
    refine st (OK1.mv (Has.t rfl)) rfl ?_
    refine st (OK1.ixK sl22 ty44 (Has.t rfl) (Has.t rfl) zc_len ⟨by omega, by omega⟩ (getD_some (d := (false, [])) (by first | omega | (simp only [Int.toNat_natCast, List.length_set]; omega)))) rfl ?_
    refine st (OK1.fieldAddrP (Has.t rfl) fld44_1 ty42 (Ss' := [_]) rfl) rfl ?_
    refine st (OK1.loadP1 (Has.t rfl) ty42) rfl ?_
    refine st (OK1.len sl42 (Has.t rfl)) rfl ?_
    refine st (OK1.mv (Has.t rfl)) rfl ?_
    refine st (OK1.gtI (Has.t rfl) (Has.t rfl)) rfl ?_
    refine nl ?_
    refine At.thn (hK8 _ _ ?_); clear hK8
    refine Tri.cond (Has.t rfl) (fun hc2 => ?_) (fun hc2 => ?_)
    · have hc2 := BP.t hc2
      have hNo : ¬ ((xs.getD i (false, [])).2.length : Int) ≤ w := (by simp only [Int.toNat_natCast] at hc2; omega)
      refine Tri.seq fun K9 hK9 => ?_
      refine Tri.region ?_
      refine st (OK1.as (Has.cB false)) rfl ?_
      refine nl ?_
      refine At.thn (hK9 _ _ ?_); clear hK9
      refine Tri.ret ?_
      refine At.blr ?_
      refine At.thr ?_
      refine At.thr ?_
      refine At.blr ?_
      refine At.thr ?_
      refine rt1 (.inl rfl) Try.results16 rfl (.tmp (Has.t' rfl ?_) .nil)
      all_goals (exact isB_eq (fewB_no (by omega) (by omega) hNo).symm)
    · have hc2 := BP.f hc2
      have hLe : ((xs.getD i (false, [])).2.length : Int) ≤ w := (by simp only [Int.toNat_natCast] at hc2; omega)
      refine Tri.skip ?_
      refine At.bln ?_
      refine At.thn (hK7 _ _ ?_); clear hK7
      refine Tri.region ?_
      refine st (OK1.mv (Has.t rfl)) rfl ?_
      refine st (OK1.addI (Has.t rfl) (Has.cI 1 rfl) (by first | omega | assumption) (by first | omega | assumption)) rfl ?_
      refine st (OK1.as (Has.t rfl)) rfl ?_
      refine nl ?_
      refine At.thn ?_
      refine hK4 (⟨i + 1, by omega, by omega, fun j h => by rcases Nat.lt_or_ge j i with h2 | h2; exact hj j h2; rw [show j = i by omega]; exact hLe⟩) _ _ ?_ (Cv.mem (.cons (t := 7) (Has.t' rfl ?_) (.cons (t := 0) (Has.t rfl) (.cons (t := 1) (Has.t rfl) (.cons (t := 2) (Has.t rfl) .nil)))) ?_)
      · show xs.length - (i + 1) < xs.length - i; omega
      · exact isI_eq (by omega)
      · rfl
  · have hc1 := BP.f hc1
    refine Tri.exit ?_
    refine At.the ?_
    refine At.the ?_
    refine At.blh ?_
    refine At.thn (hK2 _ _ ?_); clear hK2
    refine Tri.cv (Cv.wk (.cons (t := 0) (Has.t rfl) (.cons (t := 1) (Has.t rfl) .nil))) ?_
    refine Tri.seq fun K10 hK10 => ?_
    refine Tri.region ?_
    refine st (OK1.mv (Has.t rfl)) rfl ?_
    refine st (OK1.len sl22 (Has.t rfl)) rfl ?_
    refine st (OK1.mv (Has.t rfl)) rfl ?_
    refine st (OK1.leI (Has.t rfl) (Has.t rfl)) rfl ?_
    refine st (OK1.as (Has.t rfl)) rfl ?_
    refine nl ?_
    refine At.thn (hK10 _ _ ?_); clear hK10
    refine Tri.cv (Cv.wk (.cons (t := 6) (Has.t rfl) .nil)) ?_
    refine Tri.ret ?_
    refine rt1 (.inl rfl) Try.results16 rfl (.tmp (Has.t' rfl ?_) .nil)
    all_goals (exact isB_eq (fewB_yes (by omega) hj).symm)
end Go.Proofs.Ytgkbekcpmbjbdaa
/- Contracts: quotients of polynomials. -/
namespace Go.Proofs.Ytgkbekcpmbjbdaa
open Go.En Go.RowKit
set_option linter.unusedVariables false
set_option maxRecDepth 10000
open Go.Nt
open Go.Pz
set_option maxHeartbeats 4000000 in
theorem zpoly_Pseudo {xs ys : List (Bool × List Nat)} {K L : Nat} (hx : Bd (vals xs) K) (hy : Bd (vals ys) L) (hK : K + (xs.length + 2) * (L + 1) ≤ 400000000) (hn : xs.length ≤ 400000) (hm : ys.length ≤ 400000) : Ctr Try.prog 133 [SlK 2 zc xs, SlK 2 zc ys] (isTup [isP (psd (vals xs) (vals ys)).1, isP (psd (vals xs) (vals ys)).2, isB (decide (pnorm (vals ys) ≠ []))]) := by
  refine Ctr.intro Try.func133 rfl (by kernel_rfl) Try.ntmps133 rfl fun w0 F0 => ?_
  refine Tri.cv (Cv.wk (.cons (t := 0) (Has.t rfl) (.cons (t := 1) (Has.t rfl) .nil))) ?_
  refine Tri.fact (Has.lenLt (Has.t (t := 0) rfl)) fun lt0 => ?_
  refine Tri.fact (Has.lenLt (Has.t (t := 1) rfl)) fun lt1 => ?_
  obtain ⟨A, hA⟩ : ∃ A, A = pnorm (vals xs) := ⟨_, rfl⟩
  obtain ⟨B, hB⟩ : ∃ B, B = pnorm (vals ys) := ⟨_, rfl⟩
  have hAl : A.length ≤ xs.length := by rw [hA, ← vals_len xs]; exact norm_len _
  have hBl : B.length ≤ ys.length := by rw [hB, ← vals_len ys]; exact norm_len _
  have bA : Bd A K := by rw [hA]; exact hx.norm
  have bB : Bd B L := by rw [hB]; exact hy.norm
  have hAn : pnorm A = A := by rw [hA]; exact norm_norm _
  have hBn : pnorm B = B := by rw [hB]; exact norm_norm _
  have hAm : (A.map nz).length = A.length := List.length_map _
  have hBm : (B.map nz).length = B.length := List.length_map _
  have hM1 : (A.length + 1 - B.length + 1) * (L + 1) ≤ (xs.length + 2) * (L + 1) := Nat.mul_le_mul_right _ (by omega)
  have hM2 : (A.length + 1 - B.length + 1) * (L + 1) = (A.length + 1 - B.length) * (L + 1) + (L + 1) := Nat.succ_mul _ _
  refine Tri.seq fun K1 hK1 => ?_
  refine Tri.region ?_
  refine st (OK1.as (Has.cWK (k := 2) (fk := zc))) rfl ?_
  refine st (OK1.as (Has.cWK (k := 2) (fk := zc))) rfl ?_
  refine st (OK1.as (Has.cB false)) rfl ?_
  refine nl ?_
  refine At.thn (hK1 _ _ ?_); clear hK1
  refine Tri.seq fun K2 hK2 => ?_
  refine Tri.region ?_
  refine st (OK1.mv (Has.t rfl)) rfl ?_
  refine st (OK1.eq (OK1.call (zpoly_Norm hx (by omega) (by omega)) (.cons (Has.t rfl) .nil)) ((show isP (pnorm (vals xs)) = isP A from isP_eq hA.symm))) rfl ?_
  refine st (OK1.mv (Has.t rfl)) rfl ?_
  refine st (OK1.eq (OK1.call (zpoly_Norm hy (by omega) (by omega)) (.cons (Has.t rfl) .nil)) ((show isP (pnorm (vals ys)) = isP B from isP_eq hB.symm))) rfl ?_
  refine st (OK1.as (Has.t rfl)) rfl ?_
  refine st (OK1.as (Has.t rfl)) rfl ?_
  refine nl ?_
  refine At.thn (hK2 _ _ ?_); clear hK2
  refine Tri.seq fun K3 hK3 => ?_
  refine Tri.seq fun K4 hK4 => ?_
  refine Tri.region ?_
  refine st (OK1.mv (Has.t rfl)) rfl ?_
  refine st (OK1.len sl34 (Has.t rfl)) rfl ?_
  refine st (OK1.eqI (Has.t rfl) (Has.cI 0 rfl)) rfl ?_
  refine nl ?_
  refine At.thn (hK4 _ _ ?_); clear hK4
  refine Tri.cv (Cv.wk (.cons (t := 0) (Has.t rfl) (.cons (t := 1) (Has.t rfl) (.cons (t := 4) (Has.t rfl) (.cons (t := 5) (Has.t rfl) (.cons (t := 6) (Has.t rfl) (.cons (t := 17) (Has.t rfl) .nil))))))) ?_
  refine Tri.cond (Has.t rfl) (fun hc1 => ?_) (fun hc1 => ?_)
  · have hc1 := BP.t hc1
    have HE := hc1
    refine Tri.seq fun K5 hK5 => ?_
    refine Tri.region ?_
    refine st (OK1.as (Has.cWK (k := 2) (fk := zc))) rfl ?_
    refine st (OK1.as (Has.cWK (k := 2) (fk := zc))) rfl ?_
    refine st (OK1.as (Has.cB false)) rfl ?_
    refine nl ?_
    refine At.thn (hK5 _ _ ?_); clear hK5
    refine Tri.ret ?_
    refine At.thr ?_
    refine rtN (.inl rfl) Try.results133 rfl rfl (.tmp (Has.t' rfl ?_) (.tmp (Has.t' rfl ?_) (.tmp (Has.t' rfl ?_) .nil)))
    · exact isP_nil (by unfold psd; rw [if_pos (by rw [← hB]; exact List.eq_nil_of_length_eq_zero (by omega))])
    · exact isP_nil (by unfold psd; rw [if_pos (by rw [← hB]; exact List.eq_nil_of_length_eq_zero (by omega))])
    · exact isB_eq (decide_eq_false (by rw [← hB]; exact fun h => h (List.eq_nil_of_length_eq_zero (by omega)))).symm
  · have hc1 := BP.f hc1
    have HE := hc1
    rw [hBm] at HE
    have hB0 : 0 < B.length := Nat.pos_of_ne_zero (by omega)
    refine Tri.skip ?_
    refine At.thn (hK3 _ _ ?_); clear hK3
    refine Tri.seq fun K6 hK6 => ?_
    refine Tri.region ?_
    refine st (OK1.mv (Has.t rfl)) rfl ?_
    refine st (OK1.mv (Has.t rfl)) rfl ?_
    refine st (OK1.len sl34 (Has.t rfl)) rfl ?_
    refine st (OK1.subI (Has.t rfl) (Has.cI 1 rfl) (by first | omega | assumption) (by first | omega | assumption)) rfl ?_
    refine st (OK1.ixK sl34 ty44 (Has.t rfl) (Has.t rfl) zc_len ⟨by omega, by omega⟩ (getD_some (d := (false, [])) (by first | omega | (simp only [Int.toNat_natCast, List.length_set]; omega)))) rfl ?_
    refine st (OK1.eq (OK1.loadP (Has.t rfl) ty44 rfl (Ss' := [_, _]) rfl) ((zc_eq (q := nz (cf B (B.length - 1))) (by rw [getD_nz]; congr 2; omega)))) rfl ?_
    refine Ops.alloc [isB false, SlM isU []] zero44 (fun _ _ => ⟨rfl, nilM _ _, trivial⟩) rfl fun b1 => ?_
    refine Ops.store (Has.t rfl) (Has.t rfl) (i := 0) rfl ty44 rfl rfl (Ss' := [_, _]) rfl (M' := [(some _, cellM [_, _])]) rfl ?_
    refine nl ?_
    refine At.thn (hK6 _ _ ?_); clear hK6
    refine Tri.cv (Cv.wk (.cons (t := 0) (Has.t rfl) (.cons (t := 1) (Has.t rfl) (.cons (t := 4) (Has.t rfl) (.cons (t := 5) (Has.t rfl) (.cons (t := 6) (Has.t rfl) (.cons (t := 7) (Has.t rfl) .nil))))))) ?_
    refine Tri.seq fun K7 hK7 => ?_
    refine Tri.region ?_
    refine st (OK1.as (Has.cWK (k := 2) (fk := zc))) rfl ?_
    refine nl ?_
    refine At.thn (hK7 _ _ ?_); clear hK7
    refine Tri.seq fun K8 hK8 => ?_
    refine Tri.seq fun K9 hK9 => ?_
    refine Tri.region ?_
    refine st (OK1.mv (Has.t rfl)) rfl ?_
    refine st (OK1.len sl34 (Has.t rfl)) rfl ?_
    refine st (OK1.mv (Has.t rfl)) rfl ?_
    refine st (OK1.len sl34 (Has.t rfl)) rfl ?_
    refine st (OK1.subI (Has.t rfl) (Has.t rfl) (by first | omega | assumption) (by first | omega | assumption)) rfl ?_
    refine st (OK1.as (Has.t rfl)) rfl ?_
    refine nl ?_
    refine At.thn (hK9 _ _ ?_); clear hK9
    refine Tri.cv (Cv.wk (.cons (t := 0) (Has.t rfl) (.cons (t := 1) (Has.t rfl) (.cons (t := 4) (Has.t rfl) (.cons (t := 5) (Has.t rfl) (.cons (t := 6) (Has.t rfl) (.cons (t := 7) (Has.t rfl) (.cons (t := 8) (Has.t rfl) (.cons (t := 9) (Has.t rfl) .nil))))))))) ?_
    refine Tri.block ?_
    refine Tri.loopF [1, 4, 5, 6, 7] (fun (z : { z : Nat × List Int × List Int // PsI (cf B (B.length - 1)) B A K L (A.length + 1 - B.length) z.1 z.2.1 z.2.2 }) => match z with | ⟨(m, q, a), hI⟩ => [(0, isP a), (8, isP q), (9, isI ((m : Int) - 1 - ((B.length - (A.length + 1) : Nat) : Int)))]) (fun M => fun (z : { z : Nat × List Int × List Int // PsI (cf B (B.length - 1)) B A K L (A.length + 1 - B.length) z.1 z.2.1 z.2.2 }) => match z with | ⟨(m, q, a), hI⟩ => [zM b1 (cf B (B.length - 1))]) (fun (z : { z : Nat × List Int × List Int // PsI (cf B (B.length - 1)) B A K L (A.length + 1 - B.length) z.1 z.2.1 z.2.2 }) => match z with | ⟨(m, q, a), hI⟩ => m) (⟨(A.length + 1 - B.length, [], A), PsI.start bA hAn⟩) (Cv.mem (.cons (t := 0) (Has.t' rfl ?_) (.cons (t := 8) (Has.t' rfl ?_) (.cons (t := 9) (Has.t' rfl ?_) (.cons (t := 1) (Has.t rfl) (.cons (t := 4) (Has.t rfl) (.cons (t := 5) (Has.t rfl) (.cons (t := 6) (Has.t rfl) (.cons (t := 7) (Has.t rfl) .nil)))))))) ?_) ?_
    · rfl
    · rfl
    · exact isI_eq (by omega)
    · rfl
    rintro ⟨⟨m, q, a⟩, hI⟩ K10 hK10
    refine Tri.cv (Cv.wk (.cons (t := 0) (Has.t rfl) (.cons (t := 8) (Has.t rfl) (.cons (t := 9) (Has.t rfl) (.cons (t := 1) (Has.t rfl) (.cons (t := 4) (Has.t rfl) (.cons (t := 5) (Has.t rfl) (.cons (t := 6) (Has.t rfl) (.cons (t := 7) (Has.t rfl) .nil))))))))) ?_
    refine Tri.memEq (M' := [zM b1 (cf B (B.length - 1))]) rfl ?_
    simp only [] at hI
    obtain ⟨hb1, hb2⟩ := hI.bnd
    have hle := hI.le
    refine Tri.seq fun K11 hK11 => ?_
    refine Tri.seq fun K12 hK12 => ?_
    refine Tri.region ?_
    refine st (OK1.mv (Has.t rfl)) rfl ?_
    refine st (OK1.geI (Has.t rfl) (Has.cI 0 rfl)) rfl ?_
    refine nl ?_
    refine At.thn (hK12 _ _ ?_); clear hK12
    refine Tri.cond (Has.t rfl) (fun hc2 => ?_) (fun hc2 => ?_)
    · have hc2 := BP.t hc2
      obtain ⟨n, rfl⟩ : ∃ n, m = n + 1 := ⟨m - 1, by omega⟩
      refine Tri.skip ?_
      refine At.thn (hK11 _ _ ?_); clear hK11
      refine Tri.seq fun K13 hK13 => ?_
      refine Tri.block ?_
      refine Tri.seq fun K14 hK14 => ?_
      refine Tri.region ?_
      refine st (OK1.mv (Has.t rfl)) rfl ?_
      refine st (OK1.eq (OK1.mv (Has.t rfl)) ((show isI _ = isI (n : Int) from isI_eq (by omega)))) rfl ?_
      refine st (OK1.mv (Has.t rfl)) rfl ?_
      refine st (OK1.len sl34 (Has.t rfl)) rfl ?_
      refine st (OK1.addI (Has.t rfl) (Has.t rfl) (by first | omega | assumption) (by first | omega | assumption)) rfl ?_
      refine st (OK1.eq (OK1.subI (Has.t rfl) (Has.cI 1 rfl) (by first | omega | assumption) (by first | omega | assumption)) ((show isI _ = isI ((n + B.length - 1 : Nat) : Int) from isI_eq (by omega)))) rfl ?_
      refine st (OK1.eq (OK1.call (zpoly_at) (.cons (Has.t rfl) (.cons (Has.t rfl) .nil))) ((zc_eq (q := nz (cf a (n + B.length - 1))) (by rw [getD_nz])))) rfl ?_
      refine Ops.alloc [isB false, SlM isU []] zero44 (fun _ _ => ⟨rfl, nilM _ _, trivial⟩) rfl fun b2 => ?_
      refine Ops.store (Has.t rfl) (Has.t rfl) (i := 0) rfl ty44 rfl rfl (Ss' := [_, _]) rfl (M' := [(some _, cellM [_, _]), _]) rfl ?_
      refine nl ?_
      refine At.thn (hK14 _ _ ?_); clear hK14
      refine Tri.seq fun K15 hK15 => ?_
      refine Tri.dr ?_
      refine DrG.st (i := 0) [] rfl rfl rfl (by kernel_rfl) (OKG.o rfl (OK1.mv (Has.t rfl))) ?_
      refine DrG.st (i := 1) [] rfl rfl rfl (by kernel_rfl) (OKG.o rfl (OK1.load (Has.t rfl) (i := 1) rfl ty44 rfl (Ss' := [_, _]) rfl)) ?_
      refine DrG.st (i := 2) [40, 41] rfl rfl rfl (by kernel_rfl) (OKG.o rfl (OK1.eq (OK1.call (zpoly_Scale (L := L) (by rw [vals_nz]; exact hb1) (by rw [val_words]; exact bB _) (by omega) (by rw [List.length_map]; have := hI.lq; omega)) (.cons (Has.t rfl) (.cons (Has.t rfl) .nil))) (by (try simp only [getD_nz]); (try simp only [vals_nz]); (try simp only [zv_nz]); (try simp only [zv_nf]); rfl))) ?_
      refine DrG.st (i := 3) [] rfl rfl rfl (by kernel_rfl) (OKG.o rfl (OK1.load (Has.t rfl) (i := 0) rfl ty44 rfl (Ss' := [_, _]) rfl)) ?_
      refine DrG.st (i := 4) [43] rfl rfl rfl (by kernel_rfl) (OKG.o rfl (OK1.buildS [isB false, SlM isU []] sl34 ty44 zero44 (fun _ _ => ⟨rfl, nilM _ _, trivial⟩) rfl rfl (.cons (Has.t rfl) rfl rfl rfl .nil) rfl (S := isP [cf a (n + B.length - 1)]) rfl)) ?_
      refine DrG.st (i := 5) [] rfl rfl rfl (by kernel_rfl) (OKG.o rfl (OK1.eq (OK1.mv (Has.t rfl)) ((show isI _ = isI (n : Int) from isI_eq (by omega))))) ?_
      refine DrG.fin (n := 6) mixed (by kernel_rfl) (by kernel_rfl) (by kernel_rfl) ?_
      refine Ops.cv (Cv.wk (.cons (t := 1) (Has.t rfl) (.cons (t := 4) (Has.t rfl) (.cons (t := 5) (Has.t rfl) (.cons (t := 6) (Has.t rfl) (.cons (t := 7) (Has.t rfl) (.cons (t := 0) (Has.t rfl) (.cons (t := 8) (Has.t rfl) (.cons (t := 9) (Has.t rfl) (.cons (t := 29) (Has.t rfl) (.cons (t := 30) (Has.t rfl) (.cons (t := 33) (Has.t rfl) (.cons (t := 34) (Has.t rfl) (.cons (t := 35) (Has.t rfl) (.cons (t := 36) (Has.t rfl) (.cons (t := 37) (Has.t rfl) (.cons (t := 38) (Has.t rfl) (.cons (t := 39) (Has.t rfl) (.cons (t := 10) (Has.t rfl) (.cons (t := 40) (Has.t rfl) (.cons (t := 41) (Has.t rfl) (.cons (t := 42) (Has.t rfl) (.cons (t := 43) (Has.t rfl) (.cons (t := 44) (Has.t rfl) (.cons (t := 45) (Has.t rfl) .nil))))))))))))))))))))))))) ?_
      refine st (OK1.call (zpoly_shifted (l := [cf a (n + B.length - 1)]) (n := n) (by simp only [List.length_cons, List.length_nil]; omega)) (.cons (Has.t rfl) (.cons (Has.t rfl) .nil))) rfl ?_
      refine st (OK1.eq (OK1.call (zpoly_Add (K := K + (A.length + 1 - B.length) * (L + 1) + L) (by rw [vals_nz]; exact hb1.scale (bB _)) (by rw [vals_nz]; exact ((Bd.one (hb2 _)).shift _).mono (by omega)) (by omega) (by rw [List.length_map]; have := scale_len q (cf B (B.length - 1)); have := hI.lq; omega) (by rw [List.length_map, Go.Pz.shift_len]; simp only [List.length_cons, List.length_nil]; omega)) (.cons (Has.t rfl) (.cons (Has.t rfl) .nil))) (by (try simp only [getD_nz]); (try simp only [vals_nz]); (try simp only [zv_nz]); (try simp only [zv_nf]); rfl)) rfl ?_
      refine st (OK1.as (Has.t rfl)) rfl ?_
      refine nl ?_
      refine At.thn (hK15 _ _ ?_); clear hK15
      refine Tri.dr ?_
      refine DrG.st (i := 0) [] rfl rfl rfl (by kernel_rfl) (OKG.o rfl (OK1.mv (Has.t rfl))) ?_
      refine DrG.st (i := 1) [] rfl rfl rfl (by kernel_rfl) (OKG.o rfl (OK1.load (Has.t rfl) (i := 1) rfl ty44 rfl (Ss' := [_, _]) rfl)) ?_
      refine DrG.st (i := 2) [48, 49] rfl rfl rfl (by kernel_rfl) (OKG.o rfl (OK1.eq (OK1.call (zpoly_Scale (L := L) (by rw [vals_nz]; exact hb2) (by rw [val_words]; exact bB _) (by omega) (by rw [List.length_map]; have := hI.la; omega)) (.cons (Has.t rfl) (.cons (Has.t rfl) .nil))) (by (try simp only [getD_nz]); (try simp only [vals_nz]); (try simp only [zv_nz]); (try simp only [zv_nf]); rfl))) ?_
      refine DrG.st (i := 3) [] rfl rfl rfl (by kernel_rfl) (OKG.o rfl (OK1.mv (Has.t rfl))) ?_
      refine DrG.st (i := 4) [] rfl rfl rfl (by kernel_rfl) (OKG.o rfl (OK1.load (Has.t rfl) (i := 0) rfl ty44 rfl (Ss' := [_, _]) rfl)) ?_
      refine DrG.st (i := 5) [51, 52] rfl rfl rfl (by kernel_rfl) (OKG.o rfl (OK1.eq (OK1.call (zpoly_Scale (by rw [vals_nz]; exact bB) (by rw [val_words]; exact hb2 _) (by omega) (by rw [List.length_map]; omega)) (.cons (Has.t rfl) (.cons (Has.t rfl) .nil))) (by (try simp only [getD_nz]); (try simp only [vals_nz]); (try simp only [zv_nz]); (try simp only [zv_nf]); rfl))) ?_
      refine DrG.st (i := 6) [] rfl rfl rfl (by kernel_rfl) (OKG.o rfl (OK1.eq (OK1.mv (Has.t rfl)) ((show isI _ = isI (n : Int) from isI_eq (by omega))))) ?_
      refine DrG.fin (n := 7) mixed (by kernel_rfl) (by kernel_rfl) (by kernel_rfl) ?_
      refine Ops.cv (Cv.wk (.cons (t := 1) (Has.t rfl) (.cons (t := 4) (Has.t rfl) (.cons (t := 5) (Has.t rfl) (.cons (t := 6) (Has.t rfl) (.cons (t := 7) (Has.t rfl) (.cons (t := 0) (Has.t rfl) (.cons (t := 8) (Has.t rfl) (.cons (t := 9) (Has.t rfl) (.cons (t := 29) (Has.t rfl) (.cons (t := 30) (Has.t rfl) (.cons (t := 33) (Has.t rfl) (.cons (t := 34) (Has.t rfl) (.cons (t := 35) (Has.t rfl) (.cons (t := 36) (Has.t rfl) (.cons (t := 37) (Has.t rfl) (.cons (t := 38) (Has.t rfl) (.cons (t := 39) (Has.t rfl) (.cons (t := 10) (Has.t rfl) (.cons (t := 40) (Has.t rfl) (.cons (t := 41) (Has.t rfl) (.cons (t := 42) (Has.t rfl) (.cons (t := 43) (Has.t rfl) (.cons (t := 44) (Has.t rfl) (.cons (t := 45) (Has.t rfl) (.cons (t := 46) (Has.t rfl) (.cons (t := 47) (Has.t rfl) (.cons (t := 48) (Has.t rfl) (.cons (t := 49) (Has.t rfl) (.cons (t := 50) (Has.t rfl) (.cons (t := 51) (Has.t rfl) (.cons (t := 52) (Has.t rfl) (.cons (t := 53) (Has.t rfl) (.cons (t := 54) (Has.t rfl) .nil)))))))))))))))))))))))))))))))))) ?_
      refine st (OK1.call (zpoly_shifted (l := pscale B (cf a (n + B.length - 1))) (n := n) (by have := scale_len B (cf a (n + B.length - 1)); omega)) (.cons (Has.t rfl) (.cons (Has.t rfl) .nil))) rfl ?_
      refine st (OK1.eq (OK1.call (zpoly_Sub (K := K + (A.length + 1 - B.length) * (L + 1) + L) (by rw [vals_nz]; exact hb2.scale (bB _)) (by rw [vals_nz]; exact ((bB.scale (hb2 _)).shift _).mono (by omega)) (by omega) (by rw [List.length_map]; have := scale_len a (cf B (B.length - 1)); have := hI.la; omega) (by rw [List.length_map, Go.Pz.shift_len]; have := scale_len B (cf a (n + B.length - 1)); omega)) (.cons (Has.t rfl) (.cons (Has.t rfl) .nil))) (by (try simp only [getD_nz]); (try simp only [vals_nz]); (try simp only [zv_nz]); (try simp only [zv_nf]); rfl)) rfl ?_
      refine st (OK1.as (Has.t rfl)) rfl ?_
      refine nl ?_
      refine At.bln ?_
      refine At.thn (hK13 _ _ ?_); clear hK13
      refine Tri.region ?_
      refine st (OK1.mv (Has.t rfl)) rfl ?_
      refine st (OK1.subI (Has.t rfl) (Has.cI 1 rfl) (by first | omega | assumption) (by first | omega | assumption)) rfl ?_
      refine st (OK1.as (Has.t rfl)) rfl ?_
      refine nl ?_
      refine At.thn ?_
      refine hK10 (⟨(n, _, _), hI.step (bB _) bB (by omega)⟩) _ _ ?_ (Cv.trans (Cv.drop ((.cons _ (.cons_cons _ .slnil)))) (Cv.mem (.cons (t := 0) (Has.t' rfl ?_) (.cons (t := 8) (Has.t' rfl ?_) (.cons (t := 9) (Has.t' rfl ?_) (.cons (t := 1) (Has.t rfl) (.cons (t := 4) (Has.t rfl) (.cons (t := 5) (Has.t rfl) (.cons (t := 6) (Has.t rfl) (.cons (t := 7) (Has.t rfl) .nil)))))))) ?_))
      · show n < n + 1; omega
      · rfl
      · rfl
      · exact isI_eq (by omega)
      · rfl
    · have hc2 := BP.f hc2
      have HZ : m = 0 := (by omega)
      refine Tri.exit ?_
      refine At.the ?_
      refine At.the ?_
      refine At.blh ?_
      refine At.thn (hK8 _ _ ?_); clear hK8
      refine Tri.cv (Cv.wk (.cons (t := 4) (Has.t rfl) (.cons (t := 5) (Has.t rfl) (.cons (t := 6) (Has.t rfl) (.cons (t := 0) (Has.t rfl) (.cons (t := 8) (Has.t rfl) .nil)))))) ?_
      refine Tri.seq fun K16 hK16 => ?_
      refine Tri.region ?_
      refine st (OK1.mv (Has.t rfl)) rfl ?_
      refine st (OK1.eq (OK1.call (zpoly_Norm (by rw [vals_nz]; exact hb1) (by omega) (by rw [List.length_map]; have := hI.lq; omega)) (.cons (Has.t rfl) .nil)) (by (try simp only [getD_nz]); (try simp only [vals_nz]); (try simp only [zv_nz]); (try simp only [zv_nf]); rfl)) rfl ?_
      refine st (OK1.mv (Has.t rfl)) rfl ?_
      refine st (OK1.as (Has.t rfl)) rfl ?_
      refine st (OK1.as (Has.t rfl)) rfl ?_
      refine st (OK1.as (Has.cB true)) rfl ?_
      refine nl ?_
      refine At.thn (hK16 _ _ ?_); clear hK16
      refine Tri.cv (Cv.wk (.cons (t := 4) (Has.t rfl) (.cons (t := 5) (Has.t rfl) (.cons (t := 6) (Has.t rfl) .nil)))) ?_
      refine Tri.ret ?_
      obtain ⟨hd1, hd2⟩ := PsI.done (a := vals xs) (b := vals ys) (K := K) (L := L) (m0 := A.length + 1 - B.length) (by rw [← hB]; exact List.length_pos_iff.1 hB0) (by rw [← hA, ← hB]) (by rw [← hA, ← hB]; exact HZ ▸ hI)
      refine rtN (.inl rfl) Try.results133 rfl rfl (.tmp (Has.t' rfl ?_) (.tmp (Has.t' rfl ?_) (.tmp (Has.t' rfl ?_) .nil)))
      · exact isP_eq hd1
      · exact isP_eq hd2
      · exact isB_eq (decide_eq_true (by rw [← hB]; exact List.length_pos_iff.1 hB0)).symm
end Go.Proofs.Ytgkbekcpmbjbdaa
/- Contracts: greatest common divisors of polynomials. -/
namespace Go.Proofs.Ytgkbekcpmbjbdaa
open Go.En Go.RowKit
set_option linter.unusedVariables false
set_option maxRecDepth 10000
open Go.Nt
open Go.Pz
set_option maxHeartbeats 4000000 in
theorem zpoly_Gcd {xs ys : List (Bool × List Nat)} {K : Nat} (hx : Bd (vals xs) K) (hy : Bd (vals ys) K) (hC : 2 * (K + 1) * 3 ^ (max xs.length ys.length) ≤ 400000) (hn : xs.length ≤ 400000) (hm : ys.length ≤ 400000) : Ctr Try.prog 92 [SlK 2 zc xs, SlK 2 zc ys] (isP (pgcd (vals xs) (vals ys))) := by
  refine Ctr.intro Try.func92 rfl (by kernel_rfl) Try.ntmps92 rfl fun w0 F0 => ?_
  refine Tri.cv (Cv.wk (.cons (t := 0) (Has.t rfl) (.cons (t := 1) (Has.t rfl) .nil))) ?_
  refine Tri.fact (Has.lenLt (Has.t (t := 0) rfl)) fun lt0 => ?_
  refine Tri.fact (Has.lenLt (Has.t (t := 1) rfl)) fun lt1 => ?_
  obtain ⟨A, hA⟩ : ∃ A, A = prim (vals xs) := ⟨_, rfl⟩
  obtain ⟨B, hB⟩ : ∃ B, B = prim (vals ys) := ⟨_, rfl⟩
  have hAl : A.length ≤ xs.length := by rw [hA, prim_len, ← vals_len xs]; exact norm_len _
  have hBl : B.length ≤ ys.length := by rw [hB, prim_len, ← vals_len ys]; exact norm_len _
  have bA : Bd A K := by rw [hA]; exact hx.prim
  have bB : Bd B K := by rw [hB]; exact hy.prim
  have hc1 := cont_nw' hx
  have hc2 := cont_nw' hy
  have hcg := gcd_nw hc1 hc2
  have hC2 : 2 * (K + 1) * 3 ^ (max A.length B.length) ≤ 400000 := Nat.le_trans (Nat.mul_le_mul_left _ (Nat.pow_le_pow_right (by decide) (by omega))) hC
  have hK1 := Nat.mul_le_mul_left (2 * (K + 1)) (Nat.one_le_pow (max xs.length ys.length) 3 (by decide))
  refine Tri.seq fun K1 hK1 => ?_
  refine Tri.region ?_
  refine st (OK1.as (Has.cWK (k := 2) (fk := zc))) rfl ?_
  refine nl ?_
  refine At.thn (hK1 _ _ ?_); clear hK1
  refine Tri.seq fun K2 hK2 => ?_
  refine Tri.region ?_
  refine st (OK1.mv (Has.t rfl)) rfl ?_
  refine st (OK1.call (zpoly_Content hx (by omega)) (.cons (Has.t rfl) .nil)) rfl ?_
  refine st (OK1.mv (Has.t rfl)) rfl ?_
  refine st (OK1.call (zpoly_Content hy (by omega)) (.cons (Has.t rfl) .nil)) rfl ?_
  refine st (OK1.eq (OK1.call (zint_Gcd (by rw [val_words, Int.natAbs_natCast]; omega) (by rw [val_words, Int.natAbs_natCast]; omega)) (.cons (Has.t rfl) (.cons (Has.t rfl) .nil))) ((show isZ _ = isZ ((Nat.gcd (cont (vals xs)) (cont (vals ys)) : Nat) : Int) from isZ_eq (by rw [val_words, val_words, Int.natAbs_natCast, Int.natAbs_natCast])))) rfl ?_
  refine Ops.alloc [isB false, SlM isU []] zero44 (fun _ _ => ⟨rfl, nilM _ _, trivial⟩) rfl fun b1 => ?_
  refine Ops.store (Has.t rfl) (Has.t rfl) (i := 0) rfl ty44 rfl rfl (Ss' := [_, _]) rfl (M' := [(some _, cellM [_, _])]) rfl ?_
  refine nl ?_
  refine At.thn (hK2 _ _ ?_); clear hK2
  refine Tri.cv (Cv.wk (.cons (t := 0) (Has.t rfl) (.cons (t := 1) (Has.t rfl) (.cons (t := 4) (Has.t rfl) (.cons (t := 5) (Has.t rfl) .nil))))) ?_
  refine Tri.seq fun K3 hK3 => ?_
  refine Tri.region ?_
  refine st (OK1.mv (Has.t rfl)) rfl ?_
  refine st (OK1.eq (OK1.call (zpoly_Primitive hx (by omega) hn) (.cons (Has.t rfl) .nil)) ((show isP _ = isP A from isP_eq hA.symm))) rfl ?_
  refine st (OK1.mv (Has.t rfl)) rfl ?_
  refine st (OK1.eq (OK1.call (zpoly_Primitive hy (by omega) hm) (.cons (Has.t rfl) .nil)) ((show isP _ = isP B from isP_eq hB.symm))) rfl ?_
  refine st (OK1.as (Has.t rfl)) rfl ?_
  refine st (OK1.as (Has.t rfl)) rfl ?_
  refine nl ?_
  refine At.thn (hK3 _ _ ?_); clear hK3
  refine Tri.seq fun K4 hK4 => ?_
  refine Tri.block ?_
  refine Tri.loopF [4, 5] (fun (z : { z : Nat × List Int × List Int // GcI 400000 (pgcdGo B.length A B) z.1 z.2.1 z.2.2 }) => match z with | ⟨(m, a, b), hI⟩ => [(0, isP a), (1, isP b)]) (fun M => fun (z : { z : Nat × List Int × List Int // GcI 400000 (pgcdGo B.length A B) z.1 z.2.1 z.2.2 }) => match z with | ⟨(m, a, b), hI⟩ => [zM b1 ((Nat.gcd (cont (vals xs)) (cont (vals ys)) : Nat) : Int)]) (fun (z : { z : Nat × List Int × List Int // GcI 400000 (pgcdGo B.length A B) z.1 z.2.1 z.2.2 }) => match z with | ⟨(m, a, b), hI⟩ => m) (⟨(B.length, A, B), GcI.start bA bB (by rw [hA]; exact prim_norm _) (by rw [hB]; exact prim_norm _) hC2⟩) (Cv.mem (.cons (t := 0) (Has.t' rfl ?_) (.cons (t := 1) (Has.t' rfl ?_) (.cons (t := 4) (Has.t rfl) (.cons (t := 5) (Has.t rfl) .nil)))) ?_) ?_
  · rfl
  · rfl
  · rfl
  rintro ⟨⟨m, a, b⟩, hI⟩ K5 hK5
  refine Tri.cv (Cv.wk (.cons (t := 0) (Has.t rfl) (.cons (t := 1) (Has.t rfl) (.cons (t := 4) (Has.t rfl) (.cons (t := 5) (Has.t rfl) .nil))))) ?_
  refine Tri.memEq (M' := [zM b1 ((Nat.gcd (cont (vals xs)) (cont (vals ys)) : Nat) : Int)]) rfl ?_
  simp only [] at hI
  obtain ⟨k, ka, kb, hk1, hk2, hk3, hk4⟩ := hI.bnd
  refine Tri.seq fun K6 hK6 => ?_
  refine Tri.seq fun K7 hK7 => ?_
  refine Tri.region ?_
  refine st (OK1.mv (Has.t rfl)) rfl ?_
  refine st (OK1.len sl34 (Has.t rfl)) rfl ?_
  refine st (OK1.gtI (Has.t rfl) (Has.cI 0 rfl)) rfl ?_
  refine nl ?_
  refine At.thn (hK7 _ _ ?_); clear hK7
  refine Tri.cond (Has.t rfl) (fun hc1 => ?_) (fun hc1 => ?_)
  · have hc1 := BP.t hc1
    have hb : b ≠ [] := by rintro rfl; simp at hc1
    refine Tri.skip ?_
    refine At.thn (hK6 _ _ ?_); clear hK6
    refine Tri.block ?_
    refine Tri.seq fun K8 hK8 => ?_
    refine Tri.region ?_
    refine st (OK1.mv (Has.t rfl)) rfl ?_
    refine st (OK1.mv (Has.t rfl)) rfl ?_
    refine st (OK1.eq (OK1.call (zpoly_Pseudo (K := k) (L := k) (by rw [vals_nz]; exact ka) (by rw [vals_nz]; exact kb) (by rw [List.length_map]; omega) (by rw [List.length_map]; omega) (by rw [List.length_map]; omega)) (.cons (Has.t rfl) (.cons (Has.t rfl) .nil))) (by (try simp only [getD_nz]); (try simp only [vals_nz]); (try simp only [zv_nz]); (try simp only [zv_nf]); rfl)) rfl ?_
    refine st (OK1.mv (Has.t rfl)) rfl ?_
    refine st (OK1.ext (Has.t rfl) rfl) rfl ?_
    refine st (OK1.ext (Has.t rfl) rfl) rfl ?_
    refine st (OK1.ext (Has.t rfl) rfl) rfl ?_
    refine st (OK1.as (Has.t rfl)) rfl ?_
    refine st (OK1.as (Has.t rfl)) rfl ?_
    refine st (OK1.as (Has.t rfl)) rfl ?_
    refine nl ?_
    refine At.thn (hK8 _ _ ?_); clear hK8
    refine Tri.region ?_
    refine st (OK1.mv (Has.t rfl)) rfl ?_
    refine st (OK1.mv (Has.t rfl)) rfl ?_
    refine st (OK1.eq (OK1.call (zpoly_Primitive (K := k + (a.length + 1) * (k + 1)) (by rw [vals_nz]; exact (psd_bd ka kb).2) (by have : (a.length + 2) * (k + 1) = (a.length + 1) * (k + 1) + (k + 1) := Nat.succ_mul _ _; omega) (by rw [List.length_map]; have := psd_rest_len (a := a) (b := b) (by rw [hI.nb]; exact hb); rw [hI.nb] at this; omega)) (.cons (Has.t rfl) .nil)) (by (try simp only [getD_nz]); (try simp only [vals_nz]); (try simp only [zv_nz]); (try simp only [zv_nf]); rfl)) rfl ?_
    refine st (OK1.as (Has.t rfl)) rfl ?_
    refine st (OK1.as (Has.t rfl)) rfl ?_
    refine nl ?_
    refine At.bln ?_
    refine At.thn ?_
    refine hK5 (⟨(m - 1, _, _), (hI.step hb).2⟩) _ _ ?_ (Cv.mem (.cons (t := 0) (Has.t' rfl ?_) (.cons (t := 1) (Has.t' rfl ?_) (.cons (t := 4) (Has.t rfl) (.cons (t := 5) (Has.t rfl) .nil)))) ?_)
    · have := (hI.step hb).1; show m - 1 < m; omega
    · rfl
    · rfl
    · rfl
  · have hc1 := BP.f hc1
    have hb : b = [] := List.eq_nil_of_length_eq_zero (by rw [List.length_map] at hc1; omega)
    refine Tri.exit ?_
    refine At.the ?_
    refine At.the ?_
    refine At.blh ?_
    refine At.thn (hK4 _ _ ?_); clear hK4
    refine Tri.seq fun K9 hK9 => ?_
    refine Tri.region ?_
    refine st (OK1.mv (Has.t rfl)) rfl ?_
    refine st (OK1.load (Has.t rfl) (i := 0) rfl ty44 rfl (Ss' := [_, _]) rfl) rfl ?_
    refine st (OK1.eq (OK1.call (zpoly_Scale (K := k) (L := K) (by rw [vals_nz]; exact ka) (by rw [val_words, Int.natAbs_natCast]; exact hcg) (by omega) (by rw [List.length_map]; omega)) (.cons (Has.t rfl) (.cons (Has.t rfl) .nil))) (by (try simp only [getD_nz]); (try simp only [vals_nz]); (try simp only [zv_nz]); (try simp only [zv_nf]); rfl)) rfl ?_
    refine st (OK1.as (Has.t rfl)) rfl ?_
    refine nl ?_
    refine At.thn (hK9 _ _ ?_); clear hK9
    refine Tri.cv (Cv.wk (.cons (t := 4) (Has.t rfl) .nil)) ?_
    refine Tri.ret ?_
    refine rt1 (.inl rfl) Try.results92 rfl (.tmp (Has.t' rfl ?_) .nil)
    all_goals (exact isP_eq (by unfold pgcd; rw [← hA, ← hB, ← hI.go, hb, pgcdGo_nil]))
end Go.Proofs.Ytgkbekcpmbjbdaa
/- Contracts: what the laws of layer 10 share. -/
namespace Go.Proofs.Ytgkbekcpmbjbdaa
open Go.En Go.RowKit
set_option linter.unusedVariables false
set_option maxRecDepth 10000
open Go.Nt
open Go.Pz
theorem aw_n1 : pnorm [-6, 0, 6] = [-6, 0, 6] := by decide
theorem aw_n2 : pnorm [4, 4] = [4, 4] := by decide
theorem aw_gcd : pgcd [-6, 0, 6] [4, 4] = [2, 2] := by decide +kernel
theorem aw_b1 : Bd [-6, 0, 6] 1 := bd64 (by decide)
theorem aw_b2 : Bd [4, 4] 1 := bd64 (by decide)
theorem aw_2 : (List.length (words (2 : Int).natAbs)) ≤ 1 := nw_small' (by decide)
set_option maxHeartbeats 4000000 in
theorem law10_few {xs ys : List (Bool × List Nat)} {n w : Int} : Ctr Try.prog 39 [SlK 2 zc xs, SlK 2 zc ys, isI n, isI w] (isB (fewB xs n w && fewB ys n w)) := by
  refine Ctr.intro Try.func39 rfl (by kernel_rfl) Try.ntmps39 rfl fun w0 F0 => ?_
  refine Tri.cv (Cv.wk (.cons (t := 0) (Has.t rfl) (.cons (t := 1) (Has.t rfl) (.cons (t := 2) (Has.t rfl) (.cons (t := 3) (Has.t rfl) .nil))))) ?_
  refine Tri.fact (Has.lenLt (Has.t (t := 0) rfl)) fun lt0 => ?_
  refine Tri.fact (Has.lenLt (Has.t (t := 1) rfl)) fun lt1 => ?_
  refine Tri.fact (Has.rngI (Has.t (t := 2) rfl)) fun lt2 => ?_
  refine Tri.fact (Has.rngI (Has.t (t := 3) rfl)) fun lt3 => ?_
  refine Tri.seq fun K1 hK1 => ?_
  refine Tri.region ?_
  refine st (OK1.as (Has.cB false)) rfl ?_
  refine nl ?_
  refine At.thn (hK1 _ _ ?_); clear hK1
  refine Tri.seq fun K2 hK2 => ?_
  refine Tri.region ?_
  refine st (OK1.mv (Has.t rfl)) rfl ?_
  refine st (OK1.mv (Has.t rfl)) rfl ?_
  refine st (OK1.mv (Has.t rfl)) rfl ?_
  refine st (OK1.call (ref10_Few) (.cons (Has.t rfl) (.cons (Has.t rfl) (.cons (Has.t rfl) .nil)))) rfl ?_
  refine st (OK1.mv (Has.t rfl)) rfl ?_
  refine stT rfl rfl (fun hg => have hg' := BP.t hg; OK1.mv (Has.t rfl)) rfl ?_
  refine stT rfl rfl (fun hg => have hg' := BP.t hg; OK1.mv (Has.t rfl)) rfl ?_
  refine stT rfl rfl (fun hg => have hg' := BP.t hg; OK1.mv (Has.t rfl)) rfl ?_
  refine stT rfl rfl (fun hg => have hg' := BP.t hg; OK1.call (ref10_Few) (.cons (Has.g rfl hg) (.cons (Has.g rfl hg) (.cons (Has.g rfl hg) .nil)))) rfl ?_
  refine st (OK1.pickAnd (Has.t rfl) (fun h => Has.g rfl h)) rfl ?_
  refine st (OK1.as (Has.t rfl)) rfl ?_
  refine nl ?_
  refine At.thn (hK2 _ _ ?_); clear hK2
  refine Tri.cv (Cv.wk (.cons (t := 8) (Has.t rfl) .nil)) ?_
  refine Tri.ret ?_
  refine rt1 (.inl rfl) Try.results39 rfl (.tmp (Has.t' rfl ?_) .nil)
  all_goals (rfl)
set_option maxHeartbeats 4000000 in
theorem law10_awake  : Ctr Try.prog 38 [] (isB true) := by
  refine Ctr.intro Try.func38 rfl (by kernel_rfl) Try.ntmps38 rfl fun w0 F0 => ?_
  refine Tri.cv (Cv.wk .nil) ?_
  refine Tri.seq fun K1 hK1 => ?_
  refine Tri.region ?_
  refine st (OK1.as (Has.cB false)) rfl ?_
  refine nl ?_
  refine At.thn (hK1 _ _ ?_); clear hK1
  refine Tri.seq fun K2 hK2 => ?_
  refine Tri.region ?_
  refine st (OK1.buildS [isI 0, isI 0, isI 0] sl117 ty2 zero2 (fun _ _ => ⟨⟨rfl, by decide, by decide⟩, ⟨rfl, by decide, by decide⟩, ⟨rfl, by decide, by decide⟩, trivial⟩) rfl rfl (.cons (Has.cI (-6) rfl) rfl rfl rfl (.cons (Has.cI 0 rfl) rfl rfl rfl (.cons (Has.cI 6 rfl) rfl rfl rfl .nil))) rfl (S := SlM isI [_, _, _]) rfl) rfl ?_
  refine st (OK1.call (zpoly_Of (by decide)) (.cons (Has.t rfl) .nil)) rfl ?_
  refine st (OK1.buildS [isI 0, isI 0] sl117 ty2 zero2 (fun _ _ => ⟨⟨rfl, by decide, by decide⟩, ⟨rfl, by decide, by decide⟩, trivial⟩) rfl rfl (.cons (Has.cI 4 rfl) rfl rfl rfl (.cons (Has.cI 4 rfl) rfl rfl rfl .nil)) rfl (S := SlM isI [_, _]) rfl) rfl ?_
  refine st (OK1.call (zpoly_Of (by decide)) (.cons (Has.t rfl) .nil)) rfl ?_
  refine st (OK1.eq (OK1.call (zpoly_Gcd (K := 1) (by rw [vals_nz, aw_n1]; exact aw_b1) (by rw [vals_nz, aw_n2]; exact aw_b2) (by rw [aw_n1, aw_n2]; decide) (by rw [aw_n1]; decide) (by rw [aw_n2]; decide)) (.cons (Has.t rfl) (.cons (Has.t rfl) .nil))) ((show isP _ = isP [2, 2] from isP_eq (by rw [vals_nz, vals_nz, aw_n1, aw_n2]; exact aw_gcd)))) rfl ?_
  refine st (OK1.as (Has.t rfl)) rfl ?_
  refine nl ?_
  refine At.thn (hK2 _ _ ?_); clear hK2
  refine Tri.cv (Cv.wk (.cons (t := 0) (Has.t rfl) (.cons (t := 1) (Has.t rfl) .nil))) ?_
  refine Tri.seq fun K3 hK3 => ?_
  refine Tri.dr ?_
  refine DrG.st (i := 0) [] rfl rfl rfl (by kernel_rfl) (OKG.o rfl (OK1.mv (Has.t rfl))) ?_
  refine DrG.st (i := 1) [7] rfl rfl rfl (by kernel_rfl) (OKG.o rfl (OK1.len sl34 (Has.t rfl))) ?_
  refine DrG.st (i := 2) [8] rfl rfl rfl (by kernel_rfl) (OKG.o rfl (OK1.eqI (Has.t rfl) (Has.cI 2 rfl))) ?_
  refine DrG.st (i := 3) [9] rfl rfl rfl (by kernel_rfl) (OKG.o rfl (OK1.mv (Has.t rfl))) ?_
  refine DrG.st (i := 4) [10] rfl rfl rfl (by kernel_rfl) (OKG.T rfl rfl rfl (fun hg => have hg' := BP.t hg; OK1.mv (Has.t rfl))) ?_
  refine DrG.st (i := 5) [10, 11] rfl rfl rfl (by kernel_rfl) (OKG.T rfl rfl rfl (fun hg => have hg' := BP.t hg; OK1.ixK sl34 ty44 (Has.g rfl hg) (Has.cI 0 rfl) zc_len ⟨by decide, by decide⟩ (show _ = some (nz 2) from rfl))) ?_
  refine DrG.st (i := 6) [10, 12] rfl rfl rfl (by kernel_rfl) (OKG.T rfl rfl rfl (fun hg => have hg' := BP.t hg; OK1.loadP (Has.g rfl hg) ty44 rfl (Ss' := [_, _]) rfl)) ?_
  refine DrG.st (i := 7) [10] rfl rfl rfl (by kernel_rfl) (OKG.T rfl rfl rfl (fun hg => have hg' := BP.t hg; OK1.call (zint_Of) (.cons (Has.cI 2 rfl) .nil))) ?_
  refine DrG.st (i := 8) [10, 13, 14] rfl rfl rfl (by kernel_rfl) (OKG.T rfl rfl rfl (fun hg => have hg' := BP.t hg; OK1.eq (OK1.call (zint_Same (by rw [val_words]; exact Nat.le_trans (Nat.succ_le_succ aw_2) (by decide)) (by rw [val_words]; exact Nat.le_trans (Nat.succ_le_succ aw_2) (by decide))) (.cons (Has.g rfl hg) (.cons (Has.g rfl hg) .nil))) ((isB_eq (decide_eq_true (by simp only [zv_nf])))))) ?_
  refine DrG.st (i := 9) [10, 15] rfl rfl rfl (by kernel_rfl) (OKG.o rfl (OK1.pickAnd (Has.t rfl) (fun h => Has.g rfl h))) ?_
  refine DrG.st (i := 10) [16] rfl rfl rfl (by kernel_rfl) (OKG.o rfl (OK1.mv (Has.t rfl))) ?_
  refine DrG.st (i := 11) [17] rfl rfl rfl (by kernel_rfl) (OKG.T rfl rfl rfl (fun hg => have hg' := BP.t hg; OK1.mv (Has.t rfl))) ?_
  refine DrG.st (i := 12) [17, 18] rfl rfl rfl (by kernel_rfl) (OKG.T rfl rfl rfl (fun hg => have hg' := BP.t hg; OK1.ixK sl34 ty44 (Has.g rfl hg) (Has.cI 1 rfl) zc_len ⟨by decide, by decide⟩ (show _ = some (nz 2) from rfl))) ?_
  refine DrG.st (i := 13) [17, 19] rfl rfl rfl (by kernel_rfl) (OKG.T rfl rfl rfl (fun hg => have hg' := BP.t hg; OK1.loadP (Has.g rfl hg) ty44 rfl (Ss' := [_, _]) rfl)) ?_
  refine DrG.st (i := 14) [17] rfl rfl rfl (by kernel_rfl) (OKG.T rfl rfl rfl (fun hg => have hg' := BP.t hg; OK1.call (zint_Of) (.cons (Has.cI 2 rfl) .nil))) ?_
  refine DrG.fin (n := 15) mixed (by kernel_rfl) (by kernel_rfl) (by kernel_rfl) ?_
  refine Ops.cv (Cv.wk (.cons (t := 0) (Has.t rfl) (.cons (t := 1) (Has.t rfl) (.cons (t := 17) (Has.t rfl) (.cons (t := 20) (Has.t rfl) (.cons (t := 21) (Has.t rfl) .nil)))))) ?_
  refine stT rfl rfl (fun hg => have hg' := BP.t hg; OK1.eq (OK1.call (zint_Same (by rw [val_words]; exact Nat.le_trans (Nat.succ_le_succ aw_2) (by decide)) (by rw [val_words]; exact Nat.le_trans (Nat.succ_le_succ aw_2) (by decide))) (.cons (Has.g rfl hg) (.cons (Has.g rfl hg) .nil))) ((isB_eq (decide_eq_true (by simp only [zv_nf]))))) rfl ?_
  refine st (OK1.pickAnd (Has.t rfl) (fun h => Has.g rfl h)) rfl ?_
  refine st (OK1.mv (Has.t rfl)) rfl ?_
  refine stT rfl rfl (fun hg => have hg' := BP.t hg; OK1.mv (Has.t rfl)) rfl ?_
  refine stT rfl rfl (fun hg => have hg' := BP.t hg; OK1.ixK sl34 ty44 (Has.g rfl hg) (Has.cI 0 rfl) zc_len ⟨by decide, by decide⟩ (show _ = some (nz 2) from rfl)) rfl ?_
  refine stT rfl rfl (fun hg => have hg' := BP.t hg; OK1.loadP (Has.g rfl hg) ty44 rfl (Ss' := [_, _]) rfl) rfl ?_
  refine stT rfl rfl (fun hg => have hg' := BP.t hg; OK1.eq (OK1.call (zint_Sign (by rw [val_words]; exact Nat.le_trans (Nat.succ_le_succ aw_2) (by decide))) (.cons (Has.g rfl hg) .nil)) ((show isI _ = isI 1 from isI_eq (by rw [zv_nf]; rfl)))) rfl ?_
  refine stT rfl rfl (fun hg => have hg' := BP.t hg; OK1.eqI (Has.g rfl hg) (Has.cI 1 rfl)) rfl ?_
  refine st (OK1.pickAnd (Has.t rfl) (fun h => Has.g rfl h)) rfl ?_
  refine st (OK1.as (Has.t rfl)) rfl ?_
  refine nl ?_
  refine At.thn (hK3 _ _ ?_); clear hK3
  refine Tri.cv (Cv.wk (.cons (t := 0) (Has.t rfl) .nil)) ?_
  refine Tri.ret ?_
  refine rt1 (.inl rfl) Try.results38 rfl (.tmp (Has.t' rfl ?_) .nil)
  all_goals (rfl)
end Go.Proofs.Ytgkbekcpmbjbdaa
/- Polynomials over the whole numbers: what the laws of layer 10 say. No program here, but the numbers' cells. -/
namespace Go.Pz
open Go.Nt Go.En
theorem mul_len (a b : List Int) : (pmul a b).length ≤ a.length + b.length := by
  have h1 := norm_len a
  have h2 := norm_len b
  unfold pmul
  split
  · exact Nat.zero_le _
  · exact Nat.le_trans (norm_len _) (by rw [List.length_map, List.length_range]; omega)
end Go.Pz
/- Contracts: fields of words. -/
namespace Go.Proofs.Ytgkbekcpmbjbdaa
open Go.En Go.RowKit
set_option linter.unusedVariables false
set_option maxRecDepth 10000
open Go.Gf
set_option maxHeartbeats 4000000 in
theorem gfp_P {q : Nat} : Ctr Try.prog 137 [Flat [isU q]] (isU (fp q)) := by
  refine Ctr.intro Try.func137 rfl (by kernel_rfl) Try.ntmps137 rfl fun w0 F0 => ?_
  refine Tri.cv (Cv.wk (.cons (t := 0) (Has.t rfl) .nil)) ?_
  refine Tri.seq fun K1 hK1 => ?_
  refine Tri.region ?_
  refine Ops.box (Has.t rfl) rfl fun b1 => ?_
  refine st (OK1.as (Has.cU 0 rfl)) rfl ?_
  refine nl ?_
  refine At.thn (hK1 _ _ ?_); clear hK1
  refine Tri.seq fun K2 hK2 => ?_
  refine Tri.seq fun K3 hK3 => ?_
  refine Tri.region ?_
  refine st (OK1.fieldAddr (Has.t rfl) fld66_0 ty59) rfl ?_
  refine st (OK1.load1 (Has.t rfl) (i := 0) rfl ty59 rfl) rfl ?_
  refine st (OK1.eqU (Has.t rfl) (Has.cU 0 rfl)) rfl ?_
  refine nl ?_
  refine At.thn (hK3 _ _ ?_); clear hK3
  refine Tri.cond (Has.t rfl) (fun hc1 => ?_) (fun hc1 => ?_)
  · have hc1 := BP.t hc1
    refine Tri.seq fun K4 hK4 => ?_
    refine Tri.region ?_
    refine st (OK1.as (Has.cU 2 rfl)) rfl ?_
    refine nl ?_
    refine At.thn (hK4 _ _ ?_); clear hK4
    refine Tri.ret ?_
    refine At.thr ?_
    refine rt1 (.inl rfl) Try.results137 rfl (.tmp (Has.t' rfl ?_) .nil)
    all_goals (exact isU_eq (by rw [fp, if_pos hc1]))
  · have hc1 := BP.f hc1
    refine Tri.skip ?_
    refine At.thn (hK2 _ _ ?_); clear hK2
    refine Tri.seq fun K5 hK5 => ?_
    refine Tri.region ?_
    refine st (OK1.fieldAddr (Has.t rfl) fld66_0 ty59) rfl ?_
    refine st (OK1.load1 (Has.t rfl) (i := 0) rfl ty59 rfl) rfl ?_
    refine st (OK1.as (Has.t rfl)) rfl ?_
    refine nl ?_
    refine At.thn (hK5 _ _ ?_); clear hK5
    refine Tri.cv (Cv.wk (.cons (t := 2) (Has.t rfl) .nil)) ?_
    refine Tri.ret ?_
    refine rt1 (.inl rfl) Try.results137 rfl (.tmp (Has.t' rfl ?_) .nil)
    all_goals (exact isU_eq (by rw [fp, if_neg hc1]))
set_option maxHeartbeats 4000000 in
theorem gfp_Norm {q a : Nat} : Ctr Try.prog 139 [Flat [isU q], isU a] (isU (a % fp q)) := by
  refine Ctr.intro Try.func139 rfl (by kernel_rfl) Try.ntmps139 rfl fun w0 F0 => ?_
  refine Tri.cv (Cv.wk (.cons (t := 0) (Has.t rfl) (.cons (t := 1) (Has.t rfl) .nil))) ?_
  refine Tri.fact (Has.ltU (Has.t (t := 1) rfl)) fun lt1 => ?_
  have hp := fp_pos q
  refine Tri.seq fun K1 hK1 => ?_
  refine Tri.region ?_
  refine Ops.box (Has.t rfl) rfl fun b1 => ?_
  refine st (OK1.as (Has.cU 0 rfl)) rfl ?_
  refine nl ?_
  refine At.thn (hK1 _ _ ?_); clear hK1
  refine Tri.seq fun K2 hK2 => ?_
  refine Tri.region ?_
  refine st (OK1.mv (Has.t rfl)) rfl ?_
  refine st (OK1.load (Has.t rfl) (i := 0) rfl ty66 rfl (Ss' := [_]) rfl) rfl ?_
  refine st (OK1.call (gfp_P) (.cons (Has.t rfl) .nil)) rfl ?_
  refine st (OK1.remU (Has.t rfl) (Has.t rfl) (by first | omega | assumption) (by first | omega | assumption)) rfl ?_
  refine st (OK1.as (Has.t rfl)) rfl ?_
  refine nl ?_
  refine At.thn (hK2 _ _ ?_); clear hK2
  refine Tri.cv (Cv.wk (.cons (t := 4) (Has.t rfl) .nil)) ?_
  refine Tri.ret ?_
  refine rt1 (.inl rfl) Try.results139 rfl (.tmp (Has.t' rfl ?_) .nil)
  all_goals (rfl)
set_option maxHeartbeats 4000000 in
theorem gfp_Add {q a b : Nat} (hq : q < 4294967296) : Ctr Try.prog 100 [Flat [isU q], isU a, isU b] (isU ((a % fp q + b % fp q) % fp q)) := by
  refine Ctr.intro Try.func100 rfl (by kernel_rfl) Try.ntmps100 rfl fun w0 F0 => ?_
  refine Tri.cv (Cv.wk (.cons (t := 0) (Has.t rfl) (.cons (t := 1) (Has.t rfl) (.cons (t := 2) (Has.t rfl) .nil)))) ?_
  refine Tri.fact (Has.ltU (Has.t (t := 1) rfl)) fun lt1 => ?_
  refine Tri.fact (Has.ltU (Has.t (t := 2) rfl)) fun lt2 => ?_
  have hp := fp_pos q
  have hl := fp_lt hq
  have ha := Nat.mod_lt a hp
  have hb := Nat.mod_lt b hp
  refine Tri.seq fun K1 hK1 => ?_
  refine Tri.region ?_
  refine Ops.box (Has.t rfl) rfl fun b1 => ?_
  refine st (OK1.as (Has.cU 0 rfl)) rfl ?_
  refine nl ?_
  refine At.thn (hK1 _ _ ?_); clear hK1
  refine Tri.seq fun K2 hK2 => ?_
  refine Tri.dr ?_
  refine DrG.st (i := 0) [] rfl rfl rfl (by kernel_rfl) (OKG.o rfl (OK1.load (Has.t rfl) (i := 0) rfl ty66 rfl (Ss' := [_]) rfl)) ?_
  refine DrG.st (i := 1) [] rfl rfl rfl (by kernel_rfl) (OKG.o rfl (OK1.mv (Has.t rfl))) ?_
  refine DrG.st (i := 2) [7, 8] rfl rfl rfl (by kernel_rfl) (OKG.o rfl (OK1.call (gfp_Norm) (.cons (Has.t rfl) (.cons (Has.t rfl) .nil)))) ?_
  refine DrG.st (i := 3) [] rfl rfl rfl (by kernel_rfl) (OKG.o rfl (OK1.load (Has.t rfl) (i := 0) rfl ty66 rfl (Ss' := [_]) rfl)) ?_
  refine DrG.st (i := 4) [] rfl rfl rfl (by kernel_rfl) (OKG.o rfl (OK1.mv (Has.t rfl))) ?_
  refine DrG.st (i := 5) [10, 11] rfl rfl rfl (by kernel_rfl) (OKG.o rfl (OK1.call (gfp_Norm) (.cons (Has.t rfl) (.cons (Has.t rfl) .nil)))) ?_
  refine DrG.st (i := 6) [9, 12] rfl rfl rfl (by kernel_rfl) (OKG.o rfl (OK1.addU' (Has.t rfl) (Has.t rfl) (by first | omega | assumption))) ?_
  refine DrG.st (i := 7) [] rfl rfl rfl (by kernel_rfl) (OKG.o rfl (OK1.load (Has.t rfl) (i := 0) rfl ty66 rfl (Ss' := [_]) rfl)) ?_
  refine DrG.st (i := 8) [14] rfl rfl rfl (by kernel_rfl) (OKG.o rfl (OK1.call (gfp_P) (.cons (Has.t rfl) .nil))) ?_
  refine DrG.fin (n := 9) mixed (by kernel_rfl) (by kernel_rfl) (by kernel_rfl) ?_
  refine Ops.cv (Cv.wk (.cons (t := 6) (Has.t rfl) (.cons (t := 13) (Has.t rfl) (.cons (t := 15) (Has.t rfl) .nil)))) ?_
  refine st (OK1.remU (Has.t rfl) (Has.t rfl) (by first | omega | assumption) (by first | omega | assumption)) rfl ?_
  refine st (OK1.as (Has.t rfl)) rfl ?_
  refine nl ?_
  refine At.thn (hK2 _ _ ?_); clear hK2
  refine Tri.ret ?_
  refine rt1 (.inl rfl) Try.results100 rfl (.tmp (Has.t' rfl ?_) .nil)
  all_goals (rfl)
set_option maxHeartbeats 4000000 in
theorem gfp_Mul {q a b : Nat} (hq : q < 4294967296) : Ctr Try.prog 101 [Flat [isU q], isU a, isU b] (isU (a * b % fp q)) := by
  refine Ctr.intro Try.func101 rfl (by kernel_rfl) Try.ntmps101 rfl fun w0 F0 => ?_
  refine Tri.cv (Cv.wk (.cons (t := 0) (Has.t rfl) (.cons (t := 1) (Has.t rfl) (.cons (t := 2) (Has.t rfl) .nil)))) ?_
  refine Tri.fact (Has.ltU (Has.t (t := 1) rfl)) fun lt1 => ?_
  refine Tri.fact (Has.ltU (Has.t (t := 2) rfl)) fun lt2 => ?_
  have hp := fp_pos q
  have hl := fp_lt hq
  have ha := Nat.mod_lt a hp
  have hb := Nat.mod_lt b hp
  have hab : (a % fp q) * (b % fp q) < 18446744073709551616 := Nat.lt_of_lt_of_le (Nat.mul_lt_mul'' (Nat.lt_trans ha hl) (Nat.lt_trans hb hl)) (by decide)
  refine Tri.seq fun K1 hK1 => ?_
  refine Tri.region ?_
  refine Ops.box (Has.t rfl) rfl fun b1 => ?_
  refine st (OK1.as (Has.cU 0 rfl)) rfl ?_
  refine nl ?_
  refine At.thn (hK1 _ _ ?_); clear hK1
  refine Tri.seq fun K2 hK2 => ?_
  refine Tri.dr ?_
  refine DrG.st (i := 0) [] rfl rfl rfl (by kernel_rfl) (OKG.o rfl (OK1.load (Has.t rfl) (i := 0) rfl ty66 rfl (Ss' := [_]) rfl)) ?_
  refine DrG.st (i := 1) [] rfl rfl rfl (by kernel_rfl) (OKG.o rfl (OK1.mv (Has.t rfl))) ?_
  refine DrG.st (i := 2) [7, 8] rfl rfl rfl (by kernel_rfl) (OKG.o rfl (OK1.call (gfp_Norm) (.cons (Has.t rfl) (.cons (Has.t rfl) .nil)))) ?_
  refine DrG.st (i := 3) [] rfl rfl rfl (by kernel_rfl) (OKG.o rfl (OK1.load (Has.t rfl) (i := 0) rfl ty66 rfl (Ss' := [_]) rfl)) ?_
  refine DrG.st (i := 4) [] rfl rfl rfl (by kernel_rfl) (OKG.o rfl (OK1.mv (Has.t rfl))) ?_
  refine DrG.st (i := 5) [10, 11] rfl rfl rfl (by kernel_rfl) (OKG.o rfl (OK1.call (gfp_Norm) (.cons (Has.t rfl) (.cons (Has.t rfl) .nil)))) ?_
  refine DrG.st (i := 6) [9, 12] rfl rfl rfl (by kernel_rfl) (OKG.o rfl (OK1.mulU' (Has.t rfl) (Has.t rfl) (by first | omega | assumption))) ?_
  refine DrG.st (i := 7) [] rfl rfl rfl (by kernel_rfl) (OKG.o rfl (OK1.load (Has.t rfl) (i := 0) rfl ty66 rfl (Ss' := [_]) rfl)) ?_
  refine DrG.st (i := 8) [14] rfl rfl rfl (by kernel_rfl) (OKG.o rfl (OK1.call (gfp_P) (.cons (Has.t rfl) .nil))) ?_
  refine DrG.fin (n := 9) mixed (by kernel_rfl) (by kernel_rfl) (by kernel_rfl) ?_
  refine Ops.cv (Cv.wk (.cons (t := 6) (Has.t rfl) (.cons (t := 13) (Has.t rfl) (.cons (t := 15) (Has.t rfl) .nil)))) ?_
  refine st (OK1.remU (Has.t rfl) (Has.t rfl) (by first | omega | assumption) (by first | omega | assumption)) rfl ?_
  refine st (OK1.as (Has.t rfl)) rfl ?_
  refine nl ?_
  refine At.thn (hK2 _ _ ?_); clear hK2
  refine Tri.ret ?_
  refine rt1 (.inl rfl) Try.results101 rfl (.tmp (Has.t' rfl ?_) .nil)
  all_goals (exact isU_eq (Nat.mul_mod _ _ _).symm)
set_option maxHeartbeats 4000000 in
theorem modn_Prime {p : Nat} : Ctr Try.prog 135 [isU p] (isB (pr p)) := by
  refine Ctr.intro Try.func135 rfl (by kernel_rfl) Try.ntmps135 rfl fun w0 F0 => ?_
  refine Tri.cv (Cv.wk (.cons (t := 0) (Has.t rfl) .nil)) ?_
  refine Tri.fact (Has.ltU (Has.t (t := 0) rfl)) fun lt0 => ?_
  refine Tri.seq fun K1 hK1 => ?_
  refine Tri.region ?_
  refine st (OK1.as (Has.cB false)) rfl ?_
  refine nl ?_
  refine At.thn (hK1 _ _ ?_); clear hK1
  refine Tri.seq fun K2 hK2 => ?_
  refine Tri.seq fun K3 hK3 => ?_
  refine Tri.region ?_
  refine st (OK1.mv (Has.t rfl)) rfl ?_
  refine st (OK1.ltU (Has.t rfl) (Has.cU 2 rfl)) rfl ?_
  refine st (OK1.mv (Has.t rfl)) rfl ?_
  refine stF rfl rfl (fun hg => have hg' := BP.t hg; OK1.mv (Has.t rfl)) rfl ?_
  refine stF rfl rfl (fun hg => have hg' := BP.t hg; OK1.geU (Has.g rfl hg) (Has.cU 2147483648 rfl)) rfl ?_
  refine st (OK1.pickOr (Has.t rfl) (fun h => Has.g rfl (ng h))) rfl ?_
  refine st (OK1.mv (Has.t rfl)) rfl ?_
  refine stF rfl rfl (fun hg => have hg' := BP.t hg; OK1.mv (Has.t rfl)) rfl ?_
  refine stF rfl rfl (fun hg => have hg' := BP.t hg; OK1.remU (Has.g rfl hg) (Has.cU 2 rfl) (by first | omega | assumption) (by first | omega | assumption)) rfl ?_
  refine stF rfl rfl (fun hg => have hg' := BP.t hg; OK1.eqU (Has.g rfl hg) (Has.cU 0 rfl)) rfl ?_
  refine st (OK1.pickOr (Has.t rfl) (fun h => Has.g rfl (ng h))) rfl ?_
  refine nl ?_
  refine At.thn (hK3 _ _ ?_); clear hK3
  refine Tri.cv (Cv.wk (.cons (t := 0) (Has.t rfl) (.cons (t := 2) (Has.t rfl) (.cons (t := 14) (Has.t rfl) .nil)))) ?_
  refine Tri.cond (Has.t rfl) (fun hc1 => ?_) (fun hc1 => ?_)
  · have hc1 := BP.t hc1
    refine Tri.seq fun K4 hK4 => ?_
    refine Tri.region ?_
    refine st (OK1.mv (Has.t rfl)) rfl ?_
    refine st (OK1.eqU (Has.t rfl) (Has.cU 2 rfl)) rfl ?_
    refine st (OK1.as (Has.t rfl)) rfl ?_
    refine nl ?_
    refine At.thn (hK4 _ _ ?_); clear hK4
    refine Tri.ret ?_
    refine At.thr ?_
    refine rt1 (.inl rfl) Try.results135 rfl (.tmp (Has.t' rfl ?_) .nil)
    all_goals (exact isB_eq (pr_small hc1))
  · have hc1 := BP.f hc1
    refine Tri.skip ?_
    refine At.thn (hK2 _ _ ?_); clear hK2
    refine Tri.seq fun K5 hK5 => ?_
    refine Tri.seq fun K6 hK6 => ?_
    refine Tri.region ?_
    refine st (OK1.as (Has.cU 3 rfl)) rfl ?_
    refine nl ?_
    refine At.thn (hK6 _ _ ?_); clear hK6
    refine Tri.block ?_
    refine Tri.loopF [0] (fun (z : { d : Nat // d % 2 = 1 ∧ 3 ≤ d ∧ d < 65536 ∧ NoDiv p d }) => match z with | ⟨d, hI⟩ => [(3, isU d)]) (fun M => fun (z : { d : Nat // d % 2 = 1 ∧ 3 ≤ d ∧ d < 65536 ∧ NoDiv p d }) => match z with | ⟨d, hI⟩ => M) (fun (z : { d : Nat // d % 2 = 1 ∧ 3 ≤ d ∧ d < 65536 ∧ NoDiv p d }) => match z with | ⟨d, hI⟩ => 65536 - d) (⟨3, by omega, by omega, by omega, noDiv_three (by omega)⟩) (Cv.mem (.cons (t := 3) (Has.t' rfl ?_) (.cons (t := 0) (Has.t rfl) .nil)) ?_) ?_
    · rfl
    · rfl
    rintro ⟨d, hd1, hd2, hd3, hd4⟩ K7 hK7
    refine Tri.cv (Cv.wk (.cons (t := 3) (Has.t rfl) (.cons (t := 0) (Has.t rfl) .nil))) ?_
    have hdd : d * d < 4294967296 := Nat.mul_lt_mul'' hd3 hd3
    refine Tri.seq fun K8 hK8 => ?_
    refine Tri.seq fun K9 hK9 => ?_
    refine Tri.region ?_
    refine st (OK1.mv (Has.t rfl)) rfl ?_
    refine st (OK1.mv (Has.t rfl)) rfl ?_
    refine st (OK1.mulU' (Has.t rfl) (Has.t rfl) (by first | omega | assumption)) rfl ?_
    refine st (OK1.mv (Has.t rfl)) rfl ?_
    refine st (OK1.leU (Has.t rfl) (Has.t rfl)) rfl ?_
    refine nl ?_
    refine At.thn (hK9 _ _ ?_); clear hK9
    refine Tri.cond (Has.t rfl) (fun hc2 => ?_) (fun hc2 => ?_)
    · have hc2 := BP.t hc2
      refine Tri.skip ?_
      refine At.thn (hK8 _ _ ?_); clear hK8
      refine Tri.seq fun K10 hK10 => ?_
      refine Tri.block ?_
      refine Tri.seq fun K11 hK11 => ?_
      refine Tri.region ?_
      refine st (OK1.mv (Has.t rfl)) rfl ?_
      refine st (OK1.mv (Has.t rfl)) rfl ?_
      refine st (OK1.remU (Has.t rfl) (Has.t rfl) (by first | omega | assumption) (by first | omega | assumption)) rfl ?_
      refine st (OK1.eqU (Has.t rfl) (Has.cU 0 rfl)) rfl ?_
      refine nl ?_
      refine At.thn (hK11 _ _ ?_); clear hK11
      refine Tri.cond (Has.t rfl) (fun hc3 => ?_) (fun hc3 => ?_)
      · have hc3 := BP.t hc3
        refine Tri.seq fun K12 hK12 => ?_
        refine Tri.region ?_
        refine st (OK1.as (Has.cB false)) rfl ?_
        refine nl ?_
        refine At.thn (hK12 _ _ ?_); clear hK12
        refine Tri.ret ?_
        refine At.blr ?_
        refine At.thr ?_
        refine At.thr ?_
        refine At.blr ?_
        refine At.thr ?_
        refine rt1 (.inl rfl) Try.results135 rfl (.tmp (Has.t' rfl ?_) .nil)
        all_goals (exact isB_eq (pr_false (.inl (not_prime_of_div (by omega) hc2 hc3))).symm)
      · have hc3 := BP.f hc3
        refine Tri.skip ?_
        refine At.bln ?_
        refine At.thn (hK10 _ _ ?_); clear hK10
        refine Tri.region ?_
        refine st (OK1.mv (Has.t rfl)) rfl ?_
        refine st (OK1.addU' (Has.t rfl) (Has.cU 2 rfl) (by first | omega | assumption)) rfl ?_
        refine st (OK1.as (Has.t rfl)) rfl ?_
        refine nl ?_
        refine At.thn ?_
        have hd5 := sq_lt hc2 (by omega)
        refine hK7 (⟨d + 2, by omega, by omega, by omega, noDiv_step (by omega) hd1 hd4 hc3⟩) _ _ ?_ (Cv.mem (.cons (t := 3) (Has.t' rfl ?_) (.cons (t := 0) (Has.t rfl) .nil)) ?_)
        · show 65536 - (d + 2) < 65536 - d; omega
        · rfl
        · rfl
    · have hc2 := BP.f hc2
      refine Tri.exit ?_
      refine At.the ?_
      refine At.the ?_
      refine At.blh ?_
      refine At.thn (hK5 _ _ ?_); clear hK5
      refine Tri.cv (Cv.wk .nil) ?_
      refine Tri.seq fun K13 hK13 => ?_
      refine Tri.region ?_
      refine st (OK1.as (Has.cB true)) rfl ?_
      refine nl ?_
      refine At.thn (hK13 _ _ ?_); clear hK13
      refine Tri.ret ?_
      refine rt1 (.inl rfl) Try.results135 rfl (.tmp (Has.t' rfl ?_) .nil)
      all_goals (exact isB_eq (pr_iff.2 ⟨prime_of_noDiv (by omega) hd4 hc2, by omega⟩).symm)
set_option maxHeartbeats 4000000 in
theorem gfp_New {p : Nat} : Ctr Try.prog 93 [isU p] (isTup [Flat [isU (if pr p then p else 0)], isB (pr p)]) := by
  refine Ctr.intro Try.func93 rfl (by kernel_rfl) Try.ntmps93 rfl fun w0 F0 => ?_
  refine Tri.cv (Cv.wk (.cons (t := 0) (Has.t rfl) .nil)) ?_
  refine Tri.fact (Has.ltU (Has.t (t := 0) rfl)) fun lt0 => ?_
  refine Tri.seq fun K1 hK1 => ?_
  refine Tri.region ?_
  refine Ops.alloc [isU 0] zero66 (fun _ _ => ⟨⟨rfl, by decide⟩, trivial⟩) rfl fun b1 => ?_
  refine st (OK1.as (Has.cB false)) rfl ?_
  refine nl ?_
  refine At.thn (hK1 _ _ ?_); clear hK1
  refine Tri.seq fun K2 hK2 => ?_
  refine Tri.seq fun K3 hK3 => ?_
  refine Tri.region ?_
  refine st (OK1.mv (Has.t rfl)) rfl ?_
  refine st (OK1.call (modn_Prime) (.cons (Has.t rfl) .nil)) rfl ?_
  refine st (OK1.not (Has.t rfl)) rfl ?_
  refine nl ?_
  refine At.thn (hK3 _ _ ?_); clear hK3
  refine Tri.cond (Has.t rfl) (fun hc1 => ?_) (fun hc1 => ?_)
  · have hc1 := BP.t hc1
    refine Tri.seq fun K4 hK4 => ?_
    refine Tri.region ?_
    refine st (OK1.build [isU 0] pl66 zero66 (fun _ _ => ⟨⟨rfl, by decide⟩, trivial⟩) .nil (Z'' := [_]) rfl) rfl ?_
    refine Ops.store (Has.t rfl) (Has.t rfl) (i := 0) rfl ty66 rfl rfl (Ss' := [_]) rfl (M' := [(some _, cellM [_])]) rfl ?_
    refine st (OK1.as (Has.cB false)) rfl ?_
    refine nl ?_
    refine At.thn (hK4 _ _ ?_); clear hK4
    refine Tri.ret ?_
    refine At.thr ?_
    refine rtN (.inl rfl) Try.results93 rfl rfl (.cell rfl (i := 0) rfl ty66 rfl ?_ (.tmp (Has.t' rfl ?_) .nil))
    all_goals (simp [hc1])
  · have hc1 := BP.f hc1
    refine Tri.skip ?_
    refine At.thn (hK2 _ _ ?_); clear hK2
    refine Tri.seq fun K5 hK5 => ?_
    refine Tri.region ?_
    refine st (OK1.mv (Has.t rfl)) rfl ?_
    refine st (OK1.build [isU 0] pl66 zero66 (fun _ _ => ⟨⟨rfl, by decide⟩, trivial⟩) (.cons (Has.t rfl) rfl rfl rfl .nil) (Z'' := [_]) rfl) rfl ?_
    refine Ops.store (Has.t rfl) (Has.t rfl) (i := 0) rfl ty66 rfl rfl (Ss' := [_]) rfl (M' := [(some _, cellM [_])]) rfl ?_
    refine st (OK1.as (Has.cB true)) rfl ?_
    refine nl ?_
    refine At.thn (hK5 _ _ ?_); clear hK5
    refine Tri.cv (Cv.wk (.cons (t := 2) (Has.t rfl) (.cons (t := 3) (Has.t rfl) .nil))) ?_
    refine Tri.ret ?_
    refine rtN (.inl rfl) Try.results93 rfl rfl (.cell rfl (i := 0) rfl ty66 rfl ?_ (.tmp (Has.t' rfl ?_) .nil))
    all_goals (simp [hc1])
theorem gfp_New_yes {p : Nat} (h : pr p = true) : Ctr Try.prog 93 [isU p] (isTup [Flat [isU p], isB true]) := by
  have := gfp_New (p := p); rwa [h] at this
end Go.Proofs.Ytgkbekcpmbjbdaa
/- Contracts: references for fields, the laws' fixed fact. -/
namespace Go.Proofs.Ytgkbekcpmbjbdaa
open Go.En Go.RowKit
set_option linter.unusedVariables false
set_option maxRecDepth 10000
open Go.Gf
set_option maxHeartbeats 4000000 in
theorem ref08_P {n : Nat} : Ctr Try.prog 94 [isK .u8 (n : Int)] (isU (ptab (n % 12))) := by
  refine Ctr.intro Try.func94 rfl (by kernel_rfl) Try.ntmps94 rfl fun w0 F0 => ?_
  refine Tri.cv (Cv.wk (.cons (t := 0) (Has.t rfl) .nil)) ?_
  refine Tri.fact (Has.rngK (Has.t (t := 0) rfl)) fun lt0 => ?_
  simp only [IntKind.min, IntKind.max, IntKind.signed, IntKind.bits] at lt0
  refine Tri.seq fun K1 hK1 => ?_
  refine Tri.region ?_
  refine st (OK1.as (Has.cU 0 rfl)) rfl ?_
  refine nl ?_
  refine At.thn (hK1 _ _ ?_); clear hK1
  refine Tri.seq fun K2 hK2 => ?_
  refine Tri.region ?_
  refine st (OK1.buildA [isU 0, isU 0, isU 0, isU 0, isU 0, isU 0, isU 0, isU 0, isU 0, isU 0, isU 0, isU 0] arr143 ty59 zero143 (fun _ _ => ⟨⟨rfl, by decide⟩, ⟨rfl, by decide⟩, ⟨rfl, by decide⟩, ⟨rfl, by decide⟩, ⟨rfl, by decide⟩, ⟨rfl, by decide⟩, ⟨rfl, by decide⟩, ⟨rfl, by decide⟩, ⟨rfl, by decide⟩, ⟨rfl, by decide⟩, ⟨rfl, by decide⟩, ⟨rfl, by decide⟩, trivial⟩) (.cons (Has.cU 2 rfl) rfl rfl rfl (.cons (Has.cU 3 rfl) rfl rfl rfl (.cons (Has.cU 5 rfl) rfl rfl rfl (.cons (Has.cU 7 rfl) rfl rfl rfl (.cons (Has.cU 11 rfl) rfl rfl rfl (.cons (Has.cU 13 rfl) rfl rfl rfl (.cons (Has.cU 101 rfl) rfl rfl rfl (.cons (Has.cU 65537 rfl) rfl rfl rfl (.cons (Has.cU 1000003 rfl) rfl rfl rfl (.cons (Has.cU 1073741827 rfl) rfl rfl rfl (.cons (Has.cU 2147483629 rfl) rfl rfl rfl (.cons (Has.cU 2147483647 rfl) rfl rfl rfl .nil)))))))))))) (Z'' := [isU 2, isU 3, isU 5, isU 7, isU 11, isU 13, isU 101, isU 65537, isU 1000003, isU 1073741827, isU 2147483629, isU 2147483647]) rfl) rfl ?_
  refine st (OK1.mv (Has.t rfl)) rfl ?_
  refine st (OK1.remK (Has.t rfl) (Has.cK .u8 12 rfl) (by first | omega | decide | (simp only [IntKind.max, IntKind.signed, IntKind.bits]; simp; omega)) (by first | omega | decide | (simp only [IntKind.max, IntKind.signed, IntKind.bits]; simp; omega)) (by first | omega | decide | (simp only [IntKind.max, IntKind.signed, IntKind.bits]; simp; omega))) rfl ?_
  refine st (OK1.idx arr143 ty59 (Has.t rfl) (evK (Has.t rfl)) (by first | omega | decide | (simp only [IntKind.max, IntKind.signed, IntKind.bits]; simp; omega)) (by first | omega | decide | (simp only [IntKind.max, IntKind.signed, IntKind.bits]; simp; omega)) (ptab_get n isU)) rfl ?_
  refine st (OK1.as (Has.t rfl)) rfl ?_
  refine nl ?_
  refine At.thn (hK2 _ _ ?_); clear hK2
  refine Tri.cv (Cv.wk (.cons (t := 2) (Has.t rfl) .nil)) ?_
  refine Tri.ret ?_
  refine rt1 (.inl rfl) Try.results94 rfl (.tmp (Has.t' rfl ?_) .nil)
  all_goals (rfl)
end Go.Proofs.Ytgkbekcpmbjbdaa
/- Polynomials over a field of words, as lists. No program here. -/
namespace Go.Po
open Go.Nt Go.Pz Go.En
/-- elements as whole numbers -/
def zi (l : List Nat) : List Int := l.map fun (n : Nat) => (n : Int)
theorem zi_len (l : List Nat) : (zi l).length = l.length := by unfold zi; rw [List.length_map]
theorem cf_zi (l : List Nat) (i : Nat) : cf (zi l) i = ((l.getD i 0 : Nat) : Int) := by
  unfold cf zi
  rw [List.getD, List.getD, List.getElem?_map]
  cases l[i]? <;> rfl
def mdl (p : Nat) (l : List Int) : List Int := l.map fun x => x % (p : Int)
theorem cf_mdl (p : Nat) (l : List Int) (i : Nat) : cf (mdl p l) i = cf l i % (p : Int) := by
  unfold cf mdl
  rw [List.getD, List.getD, List.getElem?_map]
  cases l[i]? with
  | none => exact (Int.zero_emod _).symm
  | some x => rfl
/-- the normal list over the field -/
def nrm (p : Nat) (l : List Int) : List Nat := (pnorm (mdl p l)).map Int.toNat
theorem nrm_ext {p : Nat} {a b : List Int} (h : ∀ i, cf a i % (p : Int) = cf b i % (p : Int)) : nrm p a = nrm p b := by
  exact congrArg (List.map Int.toNat) (norm_ext (a := mdl p a) (b := mdl p b) fun i => by rw [cf_mdl, cf_mdl]; exact h i)
theorem cf_nrm {p : Nat} (hp : 0 < p) (l : List Int) (i : Nat) : cf (zi (nrm p l)) i = cf l i % (p : Int) := by
  rw [cf_zi]
  have e : (nrm p l).getD i 0 = (cf (pnorm (mdl p l)) i).toNat := by
    unfold nrm cf
    rw [List.getD, List.getD, List.getElem?_map]
    cases (pnorm (mdl p l))[i]? <;> rfl
  rw [e, cf_norm, cf_mdl, Int.toNat_of_nonneg (Int.emod_nonneg _ (by omega))]
theorem nrm_len (p : Nat) (l : List Int) : (nrm p l).length ≤ l.length := by
  unfold nrm
  rw [List.length_map]
  exact Nat.le_trans (norm_len _) (by unfold mdl; rw [List.length_map]; exact Nat.le_refl _)
theorem nrm_zi {p : Nat} (xs : List Nat) : (nrm p (zi xs)).length ≤ xs.length := by rw [← zi_len xs]; exact nrm_len _ _
theorem nrm_nil {p : Nat} {l : List Int} (h : ∀ i, cf l i % (p : Int) = 0) : nrm p l = [] := by
  unfold nrm; rw [norm_nil.2 fun i => by rw [cf_mdl]; exact h i]; rfl
/-- the first elements, in the field -/
def nmU (p : Nat) (xs : List Nat) (n : Nat) : List Nat := (xs.take n).map fun x => x % p
theorem nmU_len {p : Nat} {xs : List Nat} {n : Nat} (h : n ≤ xs.length) : (nmU p xs n).length = n := by unfold nmU; rw [List.length_map, List.length_take]; omega
theorem nmU_get {p : Nat} {xs : List Nat} {n i : Nat} (h : n ≤ xs.length) (hi : i < n) : (nmU p xs n)[i]? = some (xs.getD i 0 % p) := by
  unfold nmU
  rw [List.getElem?_map, List.getElem?_take_of_lt hi, List.getD, List.getElem?_eq_getElem (by omega)]; rfl
theorem nrm_take {p : Nat} {xs : List Nat} {n : Nat} (h0 : n = 0 ∨ xs.getD (n - 1) 0 % p ≠ 0) (hz : ∀ i, n ≤ i → xs.getD i 0 % p = 0) : nmU p xs n = nrm p (zi xs) := by
  have e : ∀ i, cf (mdl p (zi xs)) i = ((xs.getD i 0 % p : Nat) : Int) := fun i => by rw [cf_mdl, cf_zi]; exact (Int.natCast_emod _ _).symm
  unfold nrm
  rw [← take_norm (l := mdl p (zi xs)) (n := n) (h0.imp id fun h => by rw [e]; omega) fun i hi => by rw [e, hz i hi]; rfl]
  unfold nmU mdl zi
  rw [← List.map_take, ← List.map_take, List.map_map, List.map_map]
  refine List.map_congr_left fun x _ => ?_
  show x % p = (((x : Int)) % (p : Int)).toNat
  rw [← Int.natCast_emod]; rfl
/-- place by place -/
def bothU (op : Nat → Nat → Nat) (xs ys : List Nat) : List Nat := (List.range (max xs.length ys.length)).map fun i => op (xs.getD i 0) (ys.getD i 0)
theorem bothU_len (op : Nat → Nat → Nat) (xs ys : List Nat) : (bothU op xs ys).length = max xs.length ys.length := by unfold bothU; rw [List.length_map, List.length_range]
theorem bothU_get {op : Nat → Nat → Nat} {xs ys : List Nat} {i : Nat} (h : i < max xs.length ys.length) : (bothU op xs ys)[i]? = some (op (xs.getD i 0) (ys.getD i 0)) := by
  unfold bothU; rw [List.getElem?_map, List.getElem?_range h]; rfl
theorem getD_high {l : List Nat} {i : Nat} (h : l.length ≤ i) : l.getD i 0 = 0 := by rw [List.getD, List.getElem?_eq_none h]; rfl
theorem bothU_getD {op : Nat → Nat → Nat} (h0 : op 0 0 = 0) (xs ys : List Nat) (i : Nat) : (bothU op xs ys).getD i 0 = op (xs.getD i 0) (ys.getD i 0) := by
  rcases Nat.lt_or_ge i (max xs.length ys.length) with h | h
  · rw [List.getD, bothU_get h]; rfl
  · rw [getD_high (by rw [bothU_len]; exact h), getD_high (show xs.length ≤ i by omega), getD_high (show ys.length ≤ i by omega), h0]
theorem add_nrm (p : Nat) (xs ys : List Nat) : nrm p (zi (bothU (fun x y => (x % p + y % p) % p) xs ys)) = nrm p (radd (zi xs) (zi ys)) :=
  nrm_ext fun i => by
    rw [cf_zi, bothU_getD (by simp), cf_radd, cf_zi, cf_zi]
    simp only [Int.natCast_emod, Int.natCast_add]
    rw [Int.emod_emod, ← Int.add_emod]
/-- products -/
theorem mul_mod {p : Int} : ∀ (n : Nat) {f f' g g' : Nat → Int}, (∀ i, f i % p = f' i % p) → (∀ i, g i % p = g' i % p) → mul f g n % p = mul f' g' n % p
  | 0, f, f', g, g', h, k => by show (f 0 * g 0) % p = (f' 0 * g' 0) % p; rw [Int.mul_emod, h, k, ← Int.mul_emod]
  | n + 1, f, f', g, g', h, k => by
    show (f 0 * g (n + 1) + mul (fun i => f (i + 1)) g n) % p = (f' 0 * g' (n + 1) + mul (fun i => f' (i + 1)) g' n) % p
    rw [Int.add_emod, Int.mul_emod, h, k, mul_mod n (f' := fun i => f' (i + 1)) (fun i => h (i + 1)) k, ← Int.mul_emod, ← Int.add_emod]
def rwU (p : Nat) (A B : List Nat) (i k : Nat) : List Nat := (rowL (cf (zi A)) (cf (zi B)) (A.length + B.length - 1) i k).map fun z => (z % (p : Int)).toNat
abbrev rvU (p : Nat) (A B : List Nat) (i k : Nat) : Nat := (rowV (cf (zi A)) (cf (zi B)) i k (i + k) % (p : Int)).toNat
theorem rwU_len (p : Nat) (A B : List Nat) (i k : Nat) : (rwU p A B i k).length = A.length + B.length - 1 := by unfold rwU; rw [List.length_map, rowL_len]
theorem rwU_zero (p : Nat) (A B : List Nat) : rwU p A B 0 0 = List.replicate (A.length + B.length - 1) 0 := by
  unfold rwU; rw [rowL_zero, List.map_replicate, Int.zero_emod]; rfl
theorem rwU_next (p : Nat) (A B : List Nat) (i : Nat) : rwU p A B i B.length = rwU p A B (i + 1) 0 := by
  unfold rwU; rw [rowL_next (fun n hn => cf_high (by rw [zi_len]; exact hn))]
theorem rwU_get (p : Nat) {A B : List Nat} {i k : Nat} (h : i + k < A.length + B.length - 1) : (rwU p A B i k)[i + k]? = some (rvU p A B i k) := by
  unfold rwU; rw [List.getElem?_map, rowL_get _ _ _ _ h]; rfl
theorem mulU_step {p : Nat} (hp : 0 < p) (v : Int) (x y : Nat) : ((v % (p : Int)).toNat % p + (x * y % p) % p) % p = ((v + (x : Int) * (y : Int)) % (p : Int)).toNat := by
  have h : ((((v % (p : Int)).toNat % p + (x * y % p) % p) % p : Nat) : Int) = (v + (x : Int) * (y : Int)) % (p : Int) := by
    simp only [Int.natCast_emod, Int.natCast_add, Int.natCast_mul, Int.toNat_of_nonneg (Int.emod_nonneg v (show (p : Int) ≠ 0 by omega)), Int.emod_emod, ← Int.add_emod]
  rw [← h]; rfl
theorem rwU_set {p : Nat} (hp : 0 < p) {A B : List Nat} {i k : Nat} (h : i + k < A.length + B.length - 1) : (rwU p A B i k).set (i + k) ((rvU p A B i k % p + (A.getD i 0 * B.getD k 0 % p) % p) % p) = rwU p A B i (k + 1) := by
  rw [mulU_step hp]
  unfold rwU
  rw [← rowL_set _ _ h, List.map_set, cf_zi, cf_zi]
theorem mul_nrm {p : Nat} (hp : 0 < p) {xs ys A B : List Nat} (hA : A = nrm p (zi xs)) (hB : B = nrm p (zi ys)) : nrm p (zi (rwU p A B A.length 0)) = nrm p (rmul (zi xs) (zi ys)) :=
  nrm_ext fun i => by
    have h1 : ∀ j, cf (zi A) j % (p : Int) = cf (zi xs) j % (p : Int) := fun j => by rw [hA, cf_nrm hp, Int.emod_emod]
    have h2 : ∀ j, cf (zi B) j % (p : Int) = cf (zi ys) j % (p : Int) := fun j => by rw [hB, cf_nrm hp, Int.emod_emod]
    rw [cf_rmul, ← mul_mod i h1 h2, cf_zi]
    have e : (rwU p A B A.length 0) = (List.range (A.length + B.length - 1)).map fun n => (mul (cf (zi A)) (cf (zi B)) n % (p : Int)).toNat := by
      unfold rwU
      rw [rowL_all (A := A.length) (fun i hi => cf_high (by rw [zi_len]; exact hi)), List.map_map]; rfl
    rw [e]
    rcases Nat.lt_or_ge i (A.length + B.length - 1) with h | h
    · rw [List.getD, List.getElem?_map, List.getElem?_range h]
      show (((mul (cf (zi A)) (cf (zi B)) i % (p : Int)).toNat : Nat) : Int) % (p : Int) = _
      rw [Int.toNat_of_nonneg (Int.emod_nonneg _ (by omega)), Int.emod_emod]
    · rw [getD_high (by rw [List.length_map, List.length_range]; exact h), mul_high (A := A.length) (B := B.length) (fun j hj => cf_high (by rw [zi_len]; exact hj)) (fun j hj => cf_high (by rw [zi_len]; exact hj)) (by omega)]
      rfl
theorem zmul (g : Nat → Int) (n : Nat) : mul (cf (zi [])) g n = 0 := (mul_congr (f := cf (zi [])) (f' := fun _ => 0) (g := g) (g' := g) (fun i => by rw [cf_zi]; rfl) (fun _ => rfl) n).trans (zero_mul g n)
theorem mul_none {p : Nat} (hp : 0 < p) {xs ys : List Nat} (h : nrm p (zi xs) = [] ∨ nrm p (zi ys) = []) : nrm p (rmul (zi xs) (zi ys)) = [] :=
  nrm_nil fun i => by
    have h1 : ∀ j, cf (zi (nrm p (zi xs))) j % (p : Int) = cf (zi xs) j % (p : Int) := fun j => by rw [cf_nrm hp, Int.emod_emod]
    have h2 : ∀ j, cf (zi (nrm p (zi ys))) j % (p : Int) = cf (zi ys) j % (p : Int) := fun j => by rw [cf_nrm hp, Int.emod_emod]
    rw [cf_rmul, ← mul_mod i h1 h2]
    rcases h with h | h
    · rw [h, zmul]; rfl
    · rw [h, mul_comm, zmul]; rfl
/-- derivatives -/
def derU (p : Nat) (xs : List Nat) (k : Nat) : List Nat := (List.range k).map fun j => xs.getD (j + 1) 0 * (j + 1) % p
theorem derU_len (p : Nat) (xs : List Nat) (k : Nat) : (derU p xs k).length = k := by unfold derU; rw [List.length_map, List.length_range]
theorem derU_succ (p : Nat) (xs : List Nat) (k : Nat) : derU p xs k ++ [xs.getD (k + 1) 0 * (k + 1) % p] = derU p xs (k + 1) := by
  unfold derU; rw [List.range_succ, List.map_append]; rfl
def derZ (l : List Int) (k : Nat) : List Int := (List.range k).map fun j => cf l (j + 1) * ((j + 1 : Nat) : Int)
theorem derZ_len (l : List Int) (k : Nat) : (derZ l k).length = k := by unfold derZ; rw [List.length_map, List.length_range]
theorem derZ_succ (l : List Int) (k : Nat) : derZ l k ++ [cf l (k + 1) * ((k + 1 : Nat) : Int)] = derZ l (k + 1) := by
  unfold derZ; rw [List.range_succ, List.map_append]; rfl
theorem cf_derZ (l : List Int) {k : Nat} (h : l.length ≤ k + 1) (i : Nat) : cf (derZ l k) i = cf l (i + 1) * ((i + 1 : Nat) : Int) := by
  rcases Nat.lt_or_ge i k with h1 | h1
  · unfold derZ cf; rw [List.getD, List.getElem?_map, List.getElem?_range h1]; rfl
  · rw [cf_high (by rw [derZ_len]; exact h1), cf_high (show l.length ≤ i + 1 by omega), Int.zero_mul]
theorem der_nrm {p : Nat} {xs : List Nat} {k : Nat} (h : xs.length ≤ k + 1) : nrm p (zi (derU p xs k)) = nrm p (derZ (zi xs) k) :=
  nrm_ext fun i => by
    rw [cf_derZ _ (by rw [zi_len]; exact h), cf_zi, cf_zi]
    rcases Nat.lt_or_ge i k with h1 | h1
    · unfold derU
      rw [List.getD, List.getElem?_map, List.getElem?_range h1]
      show ((xs.getD (i + 1) 0 * (i + 1) % p : Nat) : Int) % (p : Int) = _
      rw [Int.natCast_emod, Int.emod_emod, Int.natCast_mul]
    · rw [getD_high (by rw [derU_len]; exact h1), getD_high (show xs.length ≤ i + 1 by omega)]
      simp
/-- whole numbers' elements -/
def redU (p : Nat) (l : List Int) (k : Nat) : List Nat := (l.take k).map fun z => (z % (p : Int)).toNat
theorem redU_len {p : Nat} {l : List Int} {k : Nat} (h : k ≤ l.length) : (redU p l k).length = k := by unfold redU; rw [List.length_map, List.length_take]; omega
theorem redU_succ (p : Nat) {l : List Int} {k : Nat} (h : k < l.length) : redU p l k ++ [(cf l k % (p : Int)).toNat] = redU p l (k + 1) := by
  unfold redU
  rw [List.take_succ_eq_append_getElem h, List.map_append]
  unfold cf
  rw [List.getD, List.getElem?_eq_getElem h]; rfl
theorem red_nrm {p : Nat} (hp : 0 < p) {l : List Int} {k : Nat} (h : l.length ≤ k) : nrm p (zi (redU p l k)) = nrm p l :=
  nrm_ext fun i => by
    unfold redU
    rw [cf_zi, List.take_of_length_le h]
    unfold cf
    rw [List.getD, List.getD, List.getElem?_map]
    cases l[i]? with
    | none => rfl
    | some x =>
      show (((x % (p : Int)).toNat : Nat) : Int) % (p : Int) = x % (p : Int)
      rw [Int.toNat_of_nonneg (Int.emod_nonneg _ (by omega)), Int.emod_emod]
/-- the law -/
theorem red_add {p : Nat} (hp : 0 < p) (a b : List Int) : nrm p (padd a b) = nrm p (radd (zi (nrm p a)) (zi (nrm p b))) :=
  nrm_ext fun i => by rw [cf_add, cf_radd, cf_nrm hp, cf_nrm hp, ← Int.add_emod]
theorem red_mul {p : Nat} (hp : 0 < p) (a b : List Int) : nrm p (pmul a b) = nrm p (rmul (zi (nrm p a)) (zi (nrm p b))) :=
  nrm_ext fun i => by
    rw [cf_pmul, cf_rmul]
    exact mul_mod i (fun j => by rw [cf_nrm hp, Int.emod_emod]) fun j => by rw [cf_nrm hp, Int.emod_emod]
theorem red_der {p : Nat} (hp : 0 < p) (a : List Int) {k j : Nat} (hk : a.length ≤ k + 1) (hj : (nrm p a).length ≤ j + 1) : nrm p (pnorm (derZ a k)) = nrm p (derZ (zi (nrm p a)) j) :=
  nrm_ext fun i => by
    rw [cf_norm, cf_derZ _ hk, cf_derZ _ (by rw [zi_len]; exact hj), cf_nrm hp, Int.mul_emod (cf a (i + 1) % (p : Int)), Int.emod_emod, ← Int.mul_emod]
theorem eqL {a b : List Nat} (h : a.length = b.length) (k : ∀ i, i < a.length → a.getD i 0 = b.getD i 0) : a = b := by
  apply List.ext_getElem h
  intro i h1 h2
  have := k i h1
  rwa [List.getD, List.getD, List.getElem?_eq_getElem h1, List.getElem?_eq_getElem h2] at this
end Go.Po
/- Contracts: polynomials over a field. -/
namespace Go.Proofs.Ytgkbekcpmbjbdaa
open Go.En Go.RowKit
set_option linter.unusedVariables false
set_option maxRecDepth 10000
open Go.Nt
open Go.Pz
open Go.Gf
open Go.Po
set_option maxHeartbeats 4000000 in
theorem fpoly_at {xs : List Nat} {i : Nat} : Ctr Try.prog 141 [isWords xs, isI (i : Int)] (isU (xs.getD i 0)) := by
  refine Ctr.intro Try.func141 rfl (by kernel_rfl) Try.ntmps141 rfl fun w0 F0 => ?_
  refine Tri.cv (Cv.wk (.cons (t := 0) (Has.t rfl) (.cons (t := 1) (Has.t rfl) .nil))) ?_
  refine Tri.fact (Has.lenLt (Has.t (t := 0) rfl)) fun lt0 => ?_
  refine Tri.fact (Has.okW (Has.t (t := 0) rfl)) fun ok0 => ?_
  refine Tri.fact (Has.rngI (Has.t (t := 1) rfl)) fun lt1 => ?_
  refine Tri.seq fun K1 hK1 => ?_
  refine Tri.region ?_
  refine st (OK1.as (Has.cU 0 rfl)) rfl ?_
  refine nl ?_
  refine At.thn (hK1 _ _ ?_); clear hK1
  refine Tri.seq fun K2 hK2 => ?_
  refine Tri.seq fun K3 hK3 => ?_
  refine Tri.region ?_
  refine st (OK1.mv (Has.t rfl)) rfl ?_
  refine st (OK1.mv (Has.t rfl)) rfl ?_
  refine st (OK1.len sl68 (Has.t rfl)) rfl ?_
  refine st (OK1.ltI (Has.t rfl) (Has.t rfl)) rfl ?_
  refine nl ?_
  refine At.thn (hK3 _ _ ?_); clear hK3
  refine Tri.cond (Has.t rfl) (fun hc1 => ?_) (fun hc1 => ?_)
  · have hc1 := BP.t hc1
    refine Tri.seq fun K4 hK4 => ?_
    refine Tri.region ?_
    refine st (OK1.mv (Has.t rfl)) rfl ?_
    refine st (OK1.mv (Has.t rfl)) rfl ?_
    refine st (OK1.ixP sl68 ty59 (Has.t rfl) (Has.t rfl) ⟨by omega, by omega⟩ (getD_some (d := 0) (by first | omega | (simp only [Int.toNat_natCast, List.length_set]; omega)))) rfl ?_
    refine st (OK1.loadP1 (Has.t rfl) ty59) rfl ?_
    refine st (OK1.as (Has.t rfl)) rfl ?_
    refine nl ?_
    refine At.thn (hK4 _ _ ?_); clear hK4
    refine Tri.cv (Cv.wk (.cons (t := 4) (Has.t rfl) .nil)) ?_
    refine Tri.ret ?_
    refine At.thr ?_
    refine rt1 (.inl rfl) Try.results141 rfl (.tmp (Has.t' rfl ?_) .nil)
    all_goals (rfl)
  · have hc1 := BP.f hc1
    refine Tri.skip ?_
    refine At.thn (hK2 _ _ ?_); clear hK2
    refine Tri.cv (Cv.wk (.cons (t := 4) (Has.t rfl) .nil)) ?_
    refine Tri.seq fun K5 hK5 => ?_
    refine Tri.region ?_
    refine st (OK1.as (Has.cU 0 rfl)) rfl ?_
    refine nl ?_
    refine At.thn (hK5 _ _ ?_); clear hK5
    refine Tri.ret ?_
    refine rt1 (.inl rfl) Try.results141 rfl (.tmp (Has.t' rfl ?_) .nil)
    all_goals (exact isU_eq (getD_high (by omega)).symm)
set_option maxHeartbeats 4000000 in
theorem fpoly_Norm {q : Nat} {xs : List Nat} (hn : xs.length ≤ 1000000) : Ctr Try.prog 96 [Flat [isU q], isWords xs] (isWords (nrm (fp q) (zi xs))) := by
  refine Ctr.intro Try.func96 rfl (by kernel_rfl) Try.ntmps96 rfl fun w0 F0 => ?_
  refine Tri.cv (Cv.wk (.cons (t := 0) (Has.t rfl) (.cons (t := 1) (Has.t rfl) .nil))) ?_
  refine Tri.fact (Has.lenLt (Has.t (t := 1) rfl)) fun lt1 => ?_
  refine Tri.fact (Has.okW (Has.t (t := 1) rfl)) fun ok1 => ?_
  have hp := fp_pos q
  refine Tri.seq fun K1 hK1 => ?_
  refine Tri.region ?_
  refine Ops.box (Has.t rfl) rfl fun b1 => ?_
  refine st (OK1.as (Has.cW (f := isU))) rfl ?_
  refine nl ?_
  refine At.thn (hK1 _ _ ?_); clear hK1
  refine Tri.seq fun K2 hK2 => ?_
  refine Tri.region ?_
  refine st (OK1.mv (Has.t rfl)) rfl ?_
  refine st (OK1.len sl68 (Has.t rfl)) rfl ?_
  refine st (OK1.as (Has.t rfl)) rfl ?_
  refine nl ?_
  refine At.thn (hK2 _ _ ?_); clear hK2
  refine Tri.seq fun K3 hK3 => ?_
  refine Tri.block ?_
  refine Tri.loopF [1, 2, 4] (fun (z : { n : Nat // n ≤ xs.length ∧ ∀ i, n ≤ i → xs.getD i 0 % fp q = 0 }) => match z with | ⟨n, hI⟩ => [(5, isI (n : Int))]) (fun M => fun (z : { n : Nat // n ≤ xs.length ∧ ∀ i, n ≤ i → xs.getD i 0 % fp q = 0 }) => match z with | ⟨n, hI⟩ => [(some b1, cellM [isU q])]) (fun (z : { n : Nat // n ≤ xs.length ∧ ∀ i, n ≤ i → xs.getD i 0 % fp q = 0 }) => match z with | ⟨n, hI⟩ => n) (⟨xs.length, Nat.le_refl _, fun i hi => by rw [getD_high hi]; exact Nat.zero_mod _⟩) (Cv.mem (.cons (t := 5) (Has.t' rfl ?_) (.cons (t := 1) (Has.t rfl) (.cons (t := 2) (Has.t rfl) (.cons (t := 4) (Has.t rfl) .nil)))) ?_) ?_
  · rfl
  · rfl
  rintro ⟨n, hk, hz⟩ K4 hK4
  refine Tri.cv (Cv.wk (.cons (t := 5) (Has.t rfl) (.cons (t := 1) (Has.t rfl) (.cons (t := 2) (Has.t rfl) (.cons (t := 4) (Has.t rfl) .nil))))) ?_
  refine Tri.memEq (M' := [(some b1, cellM [isU q])]) rfl ?_
  have ek : ((n : Int) - 1).toNat = n - 1 := by omega
  refine Tri.seq fun K5 hK5 => ?_
  refine Tri.seq fun K6 hK6 => ?_
  refine Tri.dr ?_
  refine DrG.st (i := 0) [] rfl rfl rfl (by kernel_rfl) (OKG.o rfl (OK1.mv (Has.t rfl))) ?_
  refine DrG.st (i := 1) [10] rfl rfl rfl (by kernel_rfl) (OKG.o rfl (OK1.gtI (Has.t rfl) (Has.cI 0 rfl))) ?_
  refine DrG.st (i := 2) [11] rfl rfl rfl (by kernel_rfl) (OKG.o rfl (OK1.mv (Has.t rfl))) ?_
  refine DrG.st (i := 3) [12] rfl rfl rfl (by kernel_rfl) (OKG.T rfl rfl rfl (fun hg => have hg' := BP.t hg; OK1.load (Has.t rfl) (i := 0) rfl ty66 rfl (Ss' := [_]) rfl)) ?_
  refine DrG.st (i := 4) [12] rfl rfl rfl (by kernel_rfl) (OKG.T rfl rfl rfl (fun hg => have hg' := BP.t hg; OK1.mv (Has.t rfl))) ?_
  refine DrG.st (i := 5) [12] rfl rfl rfl (by kernel_rfl) (OKG.T rfl rfl rfl (fun hg => have hg' := BP.t hg; OK1.mv (Has.t rfl))) ?_
  refine DrG.st (i := 6) [12, 15] rfl rfl rfl (by kernel_rfl) (OKG.T rfl rfl rfl (fun hg => have hg' := BP.t hg; OK1.subI (Has.g rfl hg) (Has.cI 1 rfl) (by first | omega | assumption) (by first | omega | assumption))) ?_
  refine DrG.st (i := 7) [12, 14, 16] rfl rfl rfl (by kernel_rfl) (OKG.T rfl rfl rfl (fun hg => have hg' := BP.t hg; OK1.ixP sl68 ty59 (Has.g rfl hg) (Has.g rfl hg) ⟨by omega, by omega⟩ (getD_some (d := 0) (by first | omega | (simp only [Int.toNat_natCast, List.length_set]; omega))))) ?_
  refine DrG.st (i := 8) [12, 17] rfl rfl rfl (by kernel_rfl) (OKG.T rfl rfl rfl (fun hg => have hg' := BP.t hg; OK1.loadP1 (Has.g rfl hg) ty59)) ?_
  refine DrG.fin (n := 9) mixed (by kernel_rfl) (by kernel_rfl) (by kernel_rfl) ?_
  refine Ops.cv (Cv.wk (.cons (t := 1) (Has.t rfl) (.cons (t := 2) (Has.t rfl) (.cons (t := 4) (Has.t rfl) (.cons (t := 5) (Has.t rfl) (.cons (t := 10) (Has.t rfl) (.cons (t := 11) (Has.t rfl) (.cons (t := 12) (Has.t rfl) (.cons (t := 13) (Has.t rfl) (.cons (t := 14) (Has.t rfl) (.cons (t := 15) (Has.t rfl) (.cons (t := 16) (Has.t rfl) (.cons (t := 17) (Has.t rfl) (.cons (t := 18) (Has.t rfl) .nil)))))))))))))) ?_
  refine stT rfl rfl (fun hg => have hg' := BP.t hg; OK1.call (gfp_Norm) (.cons (Has.g rfl hg) (.cons (Has.g rfl hg) .nil))) rfl ?_
  refine stT rfl rfl (fun hg => have hg' := BP.t hg; OK1.eqU (Has.g rfl hg) (Has.cU 0 rfl)) rfl ?_
  refine st (OK1.pickAnd (Has.t rfl) (fun h => Has.g rfl h)) rfl ?_
  refine nl ?_
  refine At.thn (hK6 _ _ ?_); clear hK6
  refine Tri.cond (Has.t rfl) (fun hc1 => ?_) (fun hc1 => ?_)
  · have hc1 := BP.t hc1
    have HA1 := hc1
    refine Tri.skip ?_
    refine At.thn (hK5 _ _ ?_); clear hK5
    refine Tri.block ?_
    refine Tri.region ?_
    refine st (OK1.mv (Has.t rfl)) rfl ?_
    refine st (OK1.subI (Has.t rfl) (Has.cI 1 rfl) (by first | omega | assumption) (by first | omega | assumption)) rfl ?_
    refine st (OK1.as (Has.t rfl)) rfl ?_
    refine nl ?_
    refine At.bln ?_
    refine At.thn ?_
    refine hK4 (⟨n - 1, by omega, fun i hi => by rcases Nat.lt_or_ge i n with h | h; (have e : i = n - 1 := by omega); (have := HA1.2; rw [ek] at this; rw [e]; exact this); exact hz i h⟩) _ _ ?_ (Cv.mem (.cons (t := 5) (Has.t' rfl ?_) (.cons (t := 1) (Has.t rfl) (.cons (t := 2) (Has.t rfl) (.cons (t := 4) (Has.t rfl) .nil)))) ?_)
    · show n - 1 < n; omega
    · exact isI_eq (by omega)
    · rfl
  · have hc1 := BP.f hc1
    have HA2 := hc1
    refine Tri.exit ?_
    refine At.the ?_
    refine At.the ?_
    refine At.blh ?_
    refine At.thn (hK3 _ _ ?_); clear hK3
    refine Tri.cv (Cv.wk (.cons (t := 1) (Has.t rfl) (.cons (t := 2) (Has.t rfl) (.cons (t := 4) (Has.t rfl) (.cons (t := 5) (Has.t rfl) .nil))))) ?_
    refine Tri.seq fun K7 hK7 => ?_
    refine Tri.seq fun K8 hK8 => ?_
    refine Tri.region ?_
    refine st (OK1.mv (Has.t rfl)) rfl ?_
    refine st (OK1.eqI (Has.t rfl) (Has.cI 0 rfl)) rfl ?_
    refine nl ?_
    refine At.thn (hK8 _ _ ?_); clear hK8
    refine Tri.cond (Has.t rfl) (fun hc2 => ?_) (fun hc2 => ?_)
    · have hc2 := BP.t hc2
      refine Tri.seq fun K9 hK9 => ?_
      refine Tri.region ?_
      refine st (OK1.as (Has.cW (f := isU))) rfl ?_
      refine nl ?_
      refine At.thn (hK9 _ _ ?_); clear hK9
      refine Tri.ret ?_
      refine At.thr ?_
      refine rt1 (.inl rfl) Try.results96 rfl (.tmp (Has.t' rfl ?_) .nil)
      all_goals (exact SlM_eq (nrm_take (n := 0) (.inl rfl) fun i hi => hz i (by omega)))
    · have hc2 := BP.f hc2
      refine Tri.skip ?_
      refine At.thn (hK7 _ _ ?_); clear hK7
      refine Tri.seq fun K10 hK10 => ?_
      refine Tri.region ?_
      refine st (OK1.mv (Has.t rfl)) rfl ?_
      refine Ops.make (f := isU) (u := 0) (n := n) (c := n) sl68 ty59 zero59 (fun _ _ => ⟨⟨rfl, by decide⟩, trivial⟩) by59 (Has.t' rfl rfl) (Has.t' rfl rfl) ⟨by omega, by omega⟩ rfl fun b2 => ?_
      refine st (OK1.as (Has.t rfl)) rfl ?_
      refine nl ?_
      refine At.thn (hK10 _ _ ?_); clear hK10
      refine Tri.cv (Cv.wk (.cons (t := 1) (Has.t rfl) (.cons (t := 2) (Has.t rfl) (.cons (t := 4) (Has.t rfl) (.cons (t := 6) (Has.t rfl) .nil))))) ?_
      refine Tri.seq fun K11 hK11 => ?_
      refine Tri.seq fun K12 hK12 => ?_
      refine Tri.region ?_
      refine st (OK1.mv (Has.t rfl)) rfl ?_
      refine st (OK1.len sl68 (Has.t rfl)) rfl ?_
      refine st (OK1.mv (Has.cI 0 rfl)) rfl ?_
      refine nl ?_
      refine At.thn (hK12 _ _ ?_); clear hK12
      refine Tri.block ?_
      refine Tri.loopF [1, 2, 4, 6, 29] (fun (z : { i : Nat // i ≤ n }) => match z with | ⟨i, hi⟩ => [(30, isI (i : Int))]) (fun M => fun (z : { i : Nat // i ≤ n }) => match z with | ⟨i, hi⟩ => [(some b2, cellM ((fill (nmU (fp q) xs n) i 0).map isU)), (some b1, cellM [isU q])]) (fun (z : { i : Nat // i ≤ n }) => match z with | ⟨i, hi⟩ => n - i) (⟨0, Nat.zero_le _⟩) (Cv.mem (.cons (t := 30) (Has.t' rfl ?_) (.cons (t := 1) (Has.t rfl) (.cons (t := 2) (Has.t rfl) (.cons (t := 4) (Has.t rfl) (.cons (t := 6) (Has.t rfl) (.cons (t := 29) (Has.t rfl) .nil)))))) ?_) ?_
      · rfl
      · exact memL_eq (by rw [fill_zero, nmU_len hk])
      rintro ⟨i, hi⟩ K13 hK13
      refine Tri.cv (Cv.wk (.cons (t := 30) (Has.t rfl) (.cons (t := 1) (Has.t rfl) (.cons (t := 2) (Has.t rfl) (.cons (t := 4) (Has.t rfl) (.cons (t := 6) (Has.t rfl) (.cons (t := 29) (Has.t rfl) .nil))))))) ?_
      refine Tri.memEq (M' := [(some b2, cellM ((fill (nmU (fp q) xs n) i 0).map isU)), (some b1, cellM [isU q])]) rfl ?_
      refine Tri.seq fun K14 hK14 => ?_
      refine Tri.region ?_
      refine st (OK1.ltI (Has.t rfl) (Has.t rfl)) rfl ?_
      refine nl ?_
      refine At.thn (hK14 _ _ ?_); clear hK14
      refine Tri.seq fun K15 hK15 => ?_
      refine Tri.cond (Has.t rfl) (fun hc3 => ?_) (fun hc3 => ?_)
      · have hc3 := BP.t hc3
        refine Tri.skip ?_
        refine At.thn (hK15 _ _ ?_); clear hK15
        refine Tri.seq fun K16 hK16 => ?_
        refine Tri.block ?_
        refine Tri.seq fun K17 hK17 => ?_
        refine Tri.region ?_
        refine st (OK1.mv (Has.t rfl)) rfl ?_
        refine st (OK1.as (Has.t rfl)) rfl ?_
        refine nl ?_
        refine At.thn (hK17 _ _ ?_); clear hK17
        refine Tri.dr ?_
        refine DrG.st (i := 0) [] rfl rfl rfl (by kernel_rfl) (OKG.o rfl (OK1.mv (Has.t rfl))) ?_
        refine DrG.st (i := 1) [] rfl rfl rfl (by kernel_rfl) (OKG.o rfl (OK1.mv (Has.t rfl))) ?_
        refine DrG.st (i := 2) [] rfl rfl rfl (by kernel_rfl) (OKG.o rfl (OK1.load (Has.t rfl) (i := 1) rfl ty66 rfl (Ss' := [_]) rfl)) ?_
        refine DrG.st (i := 3) [] rfl rfl rfl (by kernel_rfl) (OKG.o rfl (OK1.mv (Has.t rfl))) ?_
        refine DrG.st (i := 4) [] rfl rfl rfl (by kernel_rfl) (OKG.o rfl (OK1.mv (Has.t rfl))) ?_
        refine DrG.st (i := 5) [36, 37] rfl rfl rfl (by kernel_rfl) (OKG.o rfl (OK1.ixP sl68 ty59 (Has.t rfl) (Has.t rfl) ⟨by omega, by omega⟩ (getD_some (d := 0) (by first | omega | (simp only [Int.toNat_natCast, List.length_set]; omega))))) ?_
        refine DrG.st (i := 6) [38] rfl rfl rfl (by kernel_rfl) (OKG.o rfl (OK1.loadP1 (Has.t rfl) ty59)) ?_
        refine DrG.st (i := 7) [35, 39] rfl rfl rfl (by kernel_rfl) (OKG.o rfl (OK1.call (gfp_Norm) (.cons (Has.t rfl) (.cons (Has.t rfl) .nil)))) ?_
        refine DrG.fin (n := 8) mixed (by kernel_rfl) (by kernel_rfl) (by kernel_rfl) ?_
        refine Ops.cv (Cv.wk (.cons (t := 1) (Has.t rfl) (.cons (t := 2) (Has.t rfl) (.cons (t := 4) (Has.t rfl) (.cons (t := 6) (Has.t rfl) (.cons (t := 29) (Has.t rfl) (.cons (t := 30) (Has.t rfl) (.cons (t := 31) (Has.t rfl) (.cons (t := 32) (Has.t rfl) (.cons (t := 7) (Has.t rfl) (.cons (t := 33) (Has.t rfl) (.cons (t := 34) (Has.t rfl) (.cons (t := 35) (Has.t rfl) (.cons (t := 36) (Has.t rfl) (.cons (t := 37) (Has.t rfl) (.cons (t := 38) (Has.t rfl) (.cons (t := 39) (Has.t rfl) (.cons (t := 40) (Has.t rfl) .nil)))))))))))))))))) ?_
        refine st (OK1.eq (OK1.ixWin sl68 ty59 (Has.t rfl) (Has.t rfl) ⟨by omega, by omega⟩) (isPtr_eq (by first | exact ixo0 | exact ixo2 | exact ixo1))) rfl ?_
        refine Ops.storeM (Has.t rfl) (Has.t rfl) (i := 0) rfl ty59 (by rw [fill_len _ _ _ (by rw [nmU_len hk]; omega), nmU_len hk]; omega) (M' := [(_, _), _]) rfl ?_
        refine nl ?_
        refine At.bln ?_
        refine At.thn (hK16 _ _ ?_); clear hK16
        refine Tri.region ?_
        refine st (OK1.addI (Has.t rfl) (Has.cI 1 rfl) (by first | omega | assumption) (by first | omega | assumption)) rfl ?_
        refine st (OK1.mv (Has.t rfl)) rfl ?_
        refine nl ?_
        refine At.thn ?_
        refine hK13 (⟨i + 1, by omega⟩) _ _ ?_ (Cv.mem (.cons (t := 30) (Has.t' rfl ?_) (.cons (t := 1) (Has.t rfl) (.cons (t := 2) (Has.t rfl) (.cons (t := 4) (Has.t rfl) (.cons (t := 6) (Has.t rfl) (.cons (t := 29) (Has.t rfl) .nil)))))) ?_)
        · show n - (i + 1) < n - i; omega
        · exact isI_eq (by omega)
        · exact memL_eq (fill_set _ _ _ _ (nmU_get hk (by omega)))
      · have hc3 := BP.f hc3
        refine Tri.exit ?_
        refine At.the ?_
        refine At.the ?_
        refine At.blh ?_
        refine At.thn (hK11 _ _ ?_); clear hK11
        refine Tri.cv (Cv.wk (.cons (t := 4) (Has.t rfl) (.cons (t := 6) (Has.t rfl) .nil))) ?_
        refine Tri.seq fun K18 hK18 => ?_
        refine Tri.cv (Cv.freeze' (t := 6) (i := 0) (ys := nmU (fp q) xs n) rfl rfl rfl (by rw [fill_len _ _ _ (by rw [nmU_len hk]; omega), nmU_len hk]; omega) (fill_done (by rw [nmU_len hk]; omega) (by rw [nmU_len hk]))) ?_
        refine Tri.memEq (M' := [_]) rfl ?_
        refine Tri.cv (Cv.wk (.cons (t := 4) (Has.t rfl) (.cons (t := 6) (Has.t rfl) .nil))) ?_
        refine Tri.region ?_
        refine st (OK1.mv (Has.t rfl)) rfl ?_
        refine st (OK1.as (Has.t rfl)) rfl ?_
        refine nl ?_
        refine At.thn (hK18 _ _ ?_); clear hK18
        refine Tri.ret ?_
        refine rt1 (.inl rfl) Try.results96 rfl (.tmp (Has.t' rfl ?_) .nil)
        all_goals (exact SlM_eq (nrm_take (by rcases HA2 with h | h; left; omega; right; rw [← ek]; exact h) hz))
set_option maxHeartbeats 4000000 in
theorem fpoly_both {q : Nat} {op : Nat → Nat → Nat} {xs ys : List Nat} (hn : xs.length ≤ 1000000) (hm : ys.length ≤ 1000000) : Ctr Try.prog 99 [Flat [isU q], isWords xs, isWords ys, isFun (ι := Nat × Nat) Try.prog (fun p => [isU p.1, isU p.2]) (fun p => isU (op p.1 p.2))] (isWords (nrm (fp q) (zi (bothU op xs ys)))) := by
  refine Ctr.intro Try.func99 rfl (by kernel_rfl) Try.ntmps99 rfl fun w0 F0 => ?_
  refine Tri.cv (Cv.wk (.cons (t := 0) (Has.t rfl) (.cons (t := 1) (Has.t rfl) (.cons (t := 2) (Has.t rfl) (.cons (t := 3) (Has.t rfl) .nil))))) ?_
  refine Tri.fact (Has.lenLt (Has.t (t := 1) rfl)) fun lt1 => ?_
  refine Tri.fact (Has.okW (Has.t (t := 1) rfl)) fun ok1 => ?_
  refine Tri.fact (Has.lenLt (Has.t (t := 2) rfl)) fun lt2 => ?_
  refine Tri.fact (Has.okW (Has.t (t := 2) rfl)) fun ok2 => ?_
  have hbl := bothU_len op xs ys
  refine Tri.seq fun K1 hK1 => ?_
  refine Tri.region ?_
  refine Ops.box (Has.t rfl) rfl fun b1 => ?_
  refine st (OK1.as (Has.cW (f := isU))) rfl ?_
  refine nl ?_
  refine At.thn (hK1 _ _ ?_); clear hK1
  refine Tri.seq fun K2 hK2 => ?_
  refine Tri.region ?_
  refine st (OK1.mv (Has.t rfl)) rfl ?_
  refine st (OK1.len sl68 (Has.t rfl)) rfl ?_
  refine st (OK1.mv (Has.t rfl)) rfl ?_
  refine st (OK1.len sl68 (Has.t rfl)) rfl ?_
  refine st (OK1.eq (OK1.maxI (Has.t rfl) (Has.t rfl)) ((show isI _ = isI ((max xs.length ys.length : Nat) : Int) from isI_eq (by omega)))) rfl ?_
  refine Ops.make (f := isU) (u := 0) (n := max xs.length ys.length) (c := max xs.length ys.length) sl68 ty59 zero59 (fun _ _ => ⟨⟨rfl, by decide⟩, trivial⟩) by59 (Has.t' rfl rfl) (Has.t' rfl rfl) ⟨by omega, by omega⟩ rfl fun b2 => ?_
  refine st (OK1.as (Has.t rfl)) rfl ?_
  refine nl ?_
  refine At.thn (hK2 _ _ ?_); clear hK2
  refine Tri.cv (Cv.wk (.cons (t := 1) (Has.t rfl) (.cons (t := 2) (Has.t rfl) (.cons (t := 3) (Has.t rfl) (.cons (t := 4) (Has.t rfl) (.cons (t := 8) (Has.t rfl) (.cons (t := 9) (Has.t rfl) .nil))))))) ?_
  refine Tri.seq fun K3 hK3 => ?_
  refine Tri.seq fun K4 hK4 => ?_
  refine Tri.region ?_
  refine st (OK1.mv (Has.t rfl)) rfl ?_
  refine st (OK1.len sl68 (Has.t rfl)) rfl ?_
  refine st (OK1.mv (Has.cI 0 rfl)) rfl ?_
  refine nl ?_
  refine At.thn (hK4 _ _ ?_); clear hK4
  refine Tri.block ?_
  refine Tri.loopF [1, 2, 3, 4, 8, 9, 18] (fun (z : { i : Nat // i ≤ max xs.length ys.length }) => match z with | ⟨i, hi⟩ => [(19, isI (i : Int))]) (fun M => fun (z : { i : Nat // i ≤ max xs.length ys.length }) => match z with | ⟨i, hi⟩ => [(some b2, cellM ((fill (bothU op xs ys) i 0).map isU)), (some b1, cellM [isU q])]) (fun (z : { i : Nat // i ≤ max xs.length ys.length }) => match z with | ⟨i, hi⟩ => max xs.length ys.length - i) (⟨0, Nat.zero_le _⟩) (Cv.mem (.cons (t := 19) (Has.t' rfl ?_) (.cons (t := 1) (Has.t rfl) (.cons (t := 2) (Has.t rfl) (.cons (t := 3) (Has.t rfl) (.cons (t := 4) (Has.t rfl) (.cons (t := 8) (Has.t rfl) (.cons (t := 9) (Has.t rfl) (.cons (t := 18) (Has.t rfl) .nil)))))))) ?_) ?_
  · rfl
  · exact memL_eq (by rw [fill_zero, hbl])
  rintro ⟨i, hi⟩ K5 hK5
  refine Tri.cv (Cv.wk (.cons (t := 19) (Has.t rfl) (.cons (t := 1) (Has.t rfl) (.cons (t := 2) (Has.t rfl) (.cons (t := 3) (Has.t rfl) (.cons (t := 4) (Has.t rfl) (.cons (t := 8) (Has.t rfl) (.cons (t := 9) (Has.t rfl) (.cons (t := 18) (Has.t rfl) .nil))))))))) ?_
  refine Tri.memEq (M' := [(some b2, cellM ((fill (bothU op xs ys) i 0).map isU)), (some b1, cellM [isU q])]) rfl ?_
  refine Tri.seq fun K6 hK6 => ?_
  refine Tri.region ?_
  refine st (OK1.ltI (Has.t rfl) (Has.t rfl)) rfl ?_
  refine nl ?_
  refine At.thn (hK6 _ _ ?_); clear hK6
  refine Tri.seq fun K7 hK7 => ?_
  refine Tri.cond (Has.t rfl) (fun hc1 => ?_) (fun hc1 => ?_)
  · have hc1 := BP.t hc1
    refine Tri.skip ?_
    refine At.thn (hK7 _ _ ?_); clear hK7
    refine Tri.seq fun K8 hK8 => ?_
    refine Tri.block ?_
    refine Tri.seq fun K9 hK9 => ?_
    refine Tri.region ?_
    refine st (OK1.mv (Has.t rfl)) rfl ?_
    refine st (OK1.as (Has.t rfl)) rfl ?_
    refine nl ?_
    refine At.thn (hK9 _ _ ?_); clear hK9
    refine Tri.region ?_
    refine st (OK1.mv (Has.t rfl)) rfl ?_
    refine st (OK1.mv (Has.t rfl)) rfl ?_
    refine st (OK1.mv (Has.t rfl)) rfl ?_
    refine st (OK1.mv (Has.t rfl)) rfl ?_
    refine st (OK1.mv (Has.t rfl)) rfl ?_
    refine st (OK1.call (fpoly_at) (.cons (Has.t rfl) (.cons (Has.t rfl) .nil))) rfl ?_
    refine st (OK1.mv (Has.t rfl)) rfl ?_
    refine st (OK1.mv (Has.t rfl)) rfl ?_
    refine st (OK1.call (fpoly_at) (.cons (Has.t rfl) (.cons (Has.t rfl) .nil))) rfl ?_
    refine st (OK1.callV (xs.getD i 0, ys.getD i 0) (Has.t rfl) (.cons (Has.t rfl) (.cons (Has.t rfl) .nil))) rfl ?_
    refine st (OK1.eq (OK1.ixWin sl68 ty59 (Has.t rfl) (Has.t rfl) ⟨by omega, by omega⟩) (isPtr_eq (by first | exact ixo0 | exact ixo2 | exact ixo1))) rfl ?_
    refine Ops.storeM (Has.t rfl) (Has.t rfl) (i := 0) rfl ty59 (by rw [fill_len _ _ _ (by omega), hbl]; omega) (M' := [(_, _), _]) rfl ?_
    refine nl ?_
    refine At.bln ?_
    refine At.thn (hK8 _ _ ?_); clear hK8
    refine Tri.region ?_
    refine st (OK1.addI (Has.t rfl) (Has.cI 1 rfl) (by first | omega | assumption) (by first | omega | assumption)) rfl ?_
    refine st (OK1.mv (Has.t rfl)) rfl ?_
    refine nl ?_
    refine At.thn ?_
    refine hK5 (⟨i + 1, by omega⟩) _ _ ?_ (Cv.mem (.cons (t := 19) (Has.t' rfl ?_) (.cons (t := 1) (Has.t rfl) (.cons (t := 2) (Has.t rfl) (.cons (t := 3) (Has.t rfl) (.cons (t := 4) (Has.t rfl) (.cons (t := 8) (Has.t rfl) (.cons (t := 9) (Has.t rfl) (.cons (t := 18) (Has.t rfl) .nil)))))))) ?_)
    · show max xs.length ys.length - (i + 1) < max xs.length ys.length - i; omega
    · exact isI_eq (by omega)
    · exact memL_eq (fill_set _ _ _ _ (bothU_get (by omega)))
  · have hc1 := BP.f hc1
    refine Tri.exit ?_
    refine At.the ?_
    refine At.the ?_
    refine At.blh ?_
    refine At.thn (hK3 _ _ ?_); clear hK3
    refine Tri.cv (Cv.wk (.cons (t := 4) (Has.t rfl) (.cons (t := 8) (Has.t rfl) (.cons (t := 9) (Has.t rfl) .nil)))) ?_
    refine Tri.seq fun K10 hK10 => ?_
    refine Tri.cv (Cv.freeze' (t := 9) (i := 0) (ys := bothU op xs ys) rfl rfl rfl (by rw [fill_len _ _ _ (by omega), hbl]; omega) (fill_done (by omega) (by omega))) ?_
    refine Tri.memEq (M' := [_]) rfl ?_
    refine Tri.cv (Cv.wk (.cons (t := 4) (Has.t rfl) (.cons (t := 8) (Has.t rfl) (.cons (t := 9) (Has.t rfl) .nil)))) ?_
    refine Tri.region ?_
    refine st (OK1.load (Has.t rfl) (i := 0) rfl ty66 rfl (Ss' := [_]) rfl) rfl ?_
    refine st (OK1.mv (Has.t rfl)) rfl ?_
    refine st (OK1.call (fpoly_Norm (by omega)) (.cons (Has.t rfl) (.cons (Has.t rfl) .nil))) rfl ?_
    refine st (OK1.as (Has.t rfl)) rfl ?_
    refine nl ?_
    refine At.thn (hK10 _ _ ?_); clear hK10
    refine Tri.cv (Cv.wk (.cons (t := 8) (Has.t rfl) .nil)) ?_
    refine Tri.ret ?_
    refine rt1 (.inl rfl) Try.results99 rfl (.tmp (Has.t' rfl ?_) .nil)
    all_goals (rfl)
set_option maxHeartbeats 4000000 in
theorem fpoly_Add {q : Nat} {xs ys : List Nat} (hq : q < 4294967296) (hn : xs.length ≤ 1000000) (hm : ys.length ≤ 1000000) : Ctr Try.prog 46 [Flat [isU q], isWords xs, isWords ys] (isWords (nrm (fp q) (radd (zi xs) (zi ys)))) := by
  refine Ctr.intro Try.func46 rfl (by kernel_rfl) Try.ntmps46 rfl fun w0 F0 => ?_
  refine Tri.cv (Cv.wk (.cons (t := 0) (Has.t rfl) (.cons (t := 1) (Has.t rfl) (.cons (t := 2) (Has.t rfl) .nil)))) ?_
  refine Tri.fact (Has.lenLt (Has.t (t := 1) rfl)) fun lt1 => ?_
  refine Tri.fact (Has.okW (Has.t (t := 1) rfl)) fun ok1 => ?_
  refine Tri.fact (Has.lenLt (Has.t (t := 2) rfl)) fun lt2 => ?_
  refine Tri.fact (Has.okW (Has.t (t := 2) rfl)) fun ok2 => ?_
  refine Tri.seq fun K1 hK1 => ?_
  refine Tri.region ?_
  refine Ops.box (Has.t rfl) rfl fun b1 => ?_
  refine st (OK1.as (Has.cW (f := isU))) rfl ?_
  refine nl ?_
  refine At.thn (hK1 _ _ ?_); clear hK1
  refine Tri.seq fun K2 hK2 => ?_
  refine Tri.region ?_
  refine st (OK1.load (Has.t rfl) (i := 0) rfl ty66 rfl (Ss' := [_]) rfl) rfl ?_
  refine st (OK1.mv (Has.t rfl)) rfl ?_
  refine st (OK1.mv (Has.t rfl)) rfl ?_
  refine st (OK1.load (Has.t rfl) (i := 0) rfl ty66 rfl (Ss' := [_]) rfl) rfl ?_
  refine st (OK1.makeFn (ι := Nat × Nat) (As := fun p => [isU p.1, isU p.2]) (R := fun p => isU ((p.1 % fp q + p.2 % fp q) % fp q)) (fun p => gfp_Add hq) (.cons (Has.t rfl) .nil) .nil) rfl ?_
  refine st (OK1.call (fpoly_both (op := fun x y => (x % fp q + y % fp q) % fp q) hn hm) (.cons (Has.t rfl) (.cons (Has.t rfl) (.cons (Has.t rfl) (.cons (Has.t rfl) .nil))))) rfl ?_
  refine st (OK1.as (Has.t rfl)) rfl ?_
  refine nl ?_
  refine At.thn (hK2 _ _ ?_); clear hK2
  refine Tri.cv (Cv.wk (.cons (t := 6) (Has.t rfl) .nil)) ?_
  refine Tri.ret ?_
  refine rt1 (.inl rfl) Try.results46 rfl (.tmp (Has.t' rfl ?_) .nil)
  all_goals (exact SlM_eq (add_nrm _ _ _))
set_option maxHeartbeats 4000000 in
theorem fpoly_Mul {q : Nat} {xs ys : List Nat} (hq : q < 4294967296) (hn : xs.length ≤ 400000) (hm : ys.length ≤ 400000) : Ctr Try.prog 47 [Flat [isU q], isWords xs, isWords ys] (isWords (nrm (fp q) (rmul (zi xs) (zi ys)))) := by
  refine Ctr.intro Try.func47 rfl (by kernel_rfl) Try.ntmps47 rfl fun w0 F0 => ?_
  refine Tri.cv (Cv.wk (.cons (t := 0) (Has.t rfl) (.cons (t := 1) (Has.t rfl) (.cons (t := 2) (Has.t rfl) .nil)))) ?_
  refine Tri.fact (Has.lenLt (Has.t (t := 1) rfl)) fun lt1 => ?_
  refine Tri.fact (Has.okW (Has.t (t := 1) rfl)) fun ok1 => ?_
  refine Tri.fact (Has.lenLt (Has.t (t := 2) rfl)) fun lt2 => ?_
  refine Tri.fact (Has.okW (Has.t (t := 2) rfl)) fun ok2 => ?_
  have hp := fp_pos q
  have hl := fp_lt hq
  obtain ⟨A, hA⟩ : ∃ A, A = nrm (fp q) (zi xs) := ⟨_, rfl⟩
  obtain ⟨B, hB⟩ : ∃ B, B = nrm (fp q) (zi ys) := ⟨_, rfl⟩
  have hAl : A.length ≤ xs.length := by rw [hA]; exact nrm_zi _
  have hBl : B.length ≤ ys.length := by rw [hB]; exact nrm_zi _
  refine Tri.seq fun K1 hK1 => ?_
  refine Tri.region ?_
  refine Ops.box (Has.t rfl) rfl fun b1 => ?_
  refine st (OK1.as (Has.cW (f := isU))) rfl ?_
  refine nl ?_
  refine At.thn (hK1 _ _ ?_); clear hK1
  refine Tri.seq fun K2 hK2 => ?_
  refine Tri.dr ?_
  refine DrG.st (i := 0) [] rfl rfl rfl (by kernel_rfl) (OKG.o rfl (OK1.load (Has.t rfl) (i := 0) rfl ty66 rfl (Ss' := [_]) rfl)) ?_
  refine DrG.st (i := 1) [] rfl rfl rfl (by kernel_rfl) (OKG.o rfl (OK1.mv (Has.t rfl))) ?_
  refine DrG.st (i := 2) [12, 13] rfl rfl rfl (by kernel_rfl) (OKG.o rfl (OK1.eq (OK1.call (fpoly_Norm (by omega)) (.cons (Has.t rfl) (.cons (Has.t rfl) .nil))) ((show isWords _ = isWords A from SlM_eq hA.symm)))) ?_
  refine DrG.st (i := 3) [] rfl rfl rfl (by kernel_rfl) (OKG.o rfl (OK1.load (Has.t rfl) (i := 0) rfl ty66 rfl (Ss' := [_]) rfl)) ?_
  refine DrG.st (i := 4) [] rfl rfl rfl (by kernel_rfl) (OKG.o rfl (OK1.mv (Has.t rfl))) ?_
  refine DrG.fin (n := 5) mixed (by kernel_rfl) (by kernel_rfl) (by kernel_rfl) ?_
  refine Ops.cv (Cv.wk (.cons (t := 1) (Has.t rfl) (.cons (t := 2) (Has.t rfl) (.cons (t := 3) (Has.t rfl) (.cons (t := 6) (Has.t rfl) (.cons (t := 14) (Has.t rfl) (.cons (t := 15) (Has.t rfl) (.cons (t := 16) (Has.t rfl) .nil)))))))) ?_
  refine st (OK1.eq (OK1.call (fpoly_Norm (by omega)) (.cons (Has.t rfl) (.cons (Has.t rfl) .nil))) ((show isWords _ = isWords B from SlM_eq hB.symm))) rfl ?_
  refine st (OK1.as (Has.t rfl)) rfl ?_
  refine st (OK1.as (Has.t rfl)) rfl ?_
  refine nl ?_
  refine At.thn (hK2 _ _ ?_); clear hK2
  refine Tri.seq fun K3 hK3 => ?_
  refine Tri.seq fun K4 hK4 => ?_
  refine Tri.region ?_
  refine st (OK1.mv (Has.t rfl)) rfl ?_
  refine st (OK1.len sl68 (Has.t rfl)) rfl ?_
  refine st (OK1.eqI (Has.t rfl) (Has.cI 0 rfl)) rfl ?_
  refine st (OK1.mv (Has.t rfl)) rfl ?_
  refine stF rfl rfl (fun hg => have hg' := BP.t hg; OK1.mv (Has.t rfl)) rfl ?_
  refine stF rfl rfl (fun hg => have hg' := BP.t hg; OK1.len sl68 (Has.g rfl hg)) rfl ?_
  refine stF rfl rfl (fun hg => have hg' := BP.t hg; OK1.eqI (Has.g rfl hg) (Has.cI 0 rfl)) rfl ?_
  refine st (OK1.pickOr (Has.t rfl) (fun h => Has.g rfl (ng h))) rfl ?_
  refine nl ?_
  refine At.thn (hK4 _ _ ?_); clear hK4
  refine Tri.cv (Cv.wk (.cons (t := 1) (Has.t rfl) (.cons (t := 2) (Has.t rfl) (.cons (t := 3) (Has.t rfl) (.cons (t := 6) (Has.t rfl) (.cons (t := 25) (Has.t rfl) .nil)))))) ?_
  refine Tri.cond (Has.t rfl) (fun hc1 => ?_) (fun hc1 => ?_)
  · have hc1 := BP.t hc1
    have HE := hc1
    refine Tri.seq fun K5 hK5 => ?_
    refine Tri.region ?_
    refine st (OK1.as (Has.cW (f := isU))) rfl ?_
    refine nl ?_
    refine At.thn (hK5 _ _ ?_); clear hK5
    refine Tri.ret ?_
    refine At.thr ?_
    refine rt1 (.inl rfl) Try.results47 rfl (.tmp (Has.t' rfl ?_) .nil)
    all_goals (exact SlM_eq (mul_none hp (by rw [← hA, ← hB]; exact HE.imp (fun h => List.eq_nil_of_length_eq_zero (by omega)) fun h => List.eq_nil_of_length_eq_zero (by omega))).symm)
  · have hc1 := BP.f hc1
    have hA0 : 0 < A.length := Nat.pos_of_ne_zero (by omega)
    have hB0 : 0 < B.length := Nat.pos_of_ne_zero (by omega)
    refine Tri.skip ?_
    refine At.thn (hK3 _ _ ?_); clear hK3
    refine Tri.seq fun K6 hK6 => ?_
    refine Tri.region ?_
    refine st (OK1.mv (Has.t rfl)) rfl ?_
    refine st (OK1.len sl68 (Has.t rfl)) rfl ?_
    refine st (OK1.mv (Has.t rfl)) rfl ?_
    refine st (OK1.len sl68 (Has.t rfl)) rfl ?_
    refine st (OK1.addI (Has.t rfl) (Has.t rfl) (by first | omega | assumption) (by first | omega | assumption)) rfl ?_
    refine st (OK1.eq (OK1.subI (Has.t rfl) (Has.cI 1 rfl) (by first | omega | assumption) (by first | omega | assumption)) ((show isI _ = isI ((A.length + B.length - 1 : Nat) : Int) from isI_eq (by omega)))) rfl ?_
    refine Ops.make (f := isU) (u := 0) (n := A.length + B.length - 1) (c := A.length + B.length - 1) sl68 ty59 zero59 (fun _ _ => ⟨⟨rfl, by decide⟩, trivial⟩) by59 (Has.t' rfl rfl) (Has.t' rfl rfl) ⟨Nat.le_refl _, by omega⟩ rfl fun b2 => ?_
    refine st (OK1.as (Has.t rfl)) rfl ?_
    refine nl ?_
    refine At.thn (hK6 _ _ ?_); clear hK6
    refine Tri.cv (Cv.wk (.cons (t := 1) (Has.t rfl) (.cons (t := 2) (Has.t rfl) (.cons (t := 3) (Has.t rfl) (.cons (t := 6) (Has.t rfl) (.cons (t := 7) (Has.t rfl) .nil)))))) ?_
    refine Tri.seq fun K7 hK7 => ?_
    refine Tri.seq fun K8 hK8 => ?_
    refine Tri.region ?_
    refine st (OK1.mv (Has.t rfl)) rfl ?_
    refine st (OK1.len sl68 (Has.t rfl)) rfl ?_
    refine st (OK1.mv (Has.cI 0 rfl)) rfl ?_
    refine nl ?_
    refine At.thn (hK8 _ _ ?_); clear hK8
    refine Tri.block ?_
    refine Tri.loopF [2, 3, 6, 7, 33, 34] (fun (z : { i : Nat // i ≤ A.length }) => match z with | ⟨i, hi⟩ => [(35, isI (i : Int))]) (fun M => fun (z : { i : Nat // i ≤ A.length }) => match z with | ⟨i, hi⟩ => [(some b2, cellM ((rwU (fp q) A B i 0).map isU)), (some b1, cellM [isU q])]) (fun (z : { i : Nat // i ≤ A.length }) => match z with | ⟨i, hi⟩ => A.length - i) (⟨0, Nat.zero_le _⟩) (Cv.mem (.cons (t := 35) (Has.t' rfl ?_) (.cons (t := 2) (Has.t rfl) (.cons (t := 3) (Has.t rfl) (.cons (t := 6) (Has.t rfl) (.cons (t := 7) (Has.t rfl) (.cons (t := 33) (Has.t rfl) (.cons (t := 34) (Has.t rfl) .nil))))))) ?_) ?_
    · rfl
    · exact memL_eq (by rw [rwU_zero])
    rintro ⟨i, hi⟩ K9 hK9
    refine Tri.cv (Cv.wk (.cons (t := 35) (Has.t rfl) (.cons (t := 2) (Has.t rfl) (.cons (t := 3) (Has.t rfl) (.cons (t := 6) (Has.t rfl) (.cons (t := 7) (Has.t rfl) (.cons (t := 33) (Has.t rfl) (.cons (t := 34) (Has.t rfl) .nil)))))))) ?_
    refine Tri.memEq (M' := [(some b2, cellM ((rwU (fp q) A B i 0).map isU)), (some b1, cellM [isU q])]) rfl ?_
    refine Tri.seq fun K10 hK10 => ?_
    refine Tri.region ?_
    refine st (OK1.ltI (Has.t rfl) (Has.t rfl)) rfl ?_
    refine nl ?_
    refine At.thn (hK10 _ _ ?_); clear hK10
    refine Tri.seq fun K11 hK11 => ?_
    refine Tri.cond (Has.t rfl) (fun hc2 => ?_) (fun hc2 => ?_)
    · have hc2 := BP.t hc2
      refine Tri.skip ?_
      refine At.thn (hK11 _ _ ?_); clear hK11
      refine Tri.seq fun K12 hK12 => ?_
      refine Tri.block ?_
      refine Tri.seq fun K13 hK13 => ?_
      refine Tri.region ?_
      refine st (OK1.mv (Has.t rfl)) rfl ?_
      refine st (OK1.ixP sl68 ty59 (Has.t rfl) (Has.t rfl) ⟨by omega, by omega⟩ (getD_some (d := 0) (by first | omega | (simp only [Int.toNat_natCast, List.length_set]; omega)))) rfl ?_
      refine st (OK1.loadP1 (Has.t rfl) ty59) rfl ?_
      refine st (OK1.as (Has.t rfl)) rfl ?_
      refine st (OK1.as (Has.t rfl)) rfl ?_
      refine nl ?_
      refine At.thn (hK13 _ _ ?_); clear hK13
      refine Tri.seq fun K14 hK14 => ?_
      refine Tri.region ?_
      refine st (OK1.mv (Has.t rfl)) rfl ?_
      refine st (OK1.len sl68 (Has.t rfl)) rfl ?_
      refine st (OK1.mv (Has.cI 0 rfl)) rfl ?_
      refine nl ?_
      refine At.thn (hK14 _ _ ?_); clear hK14
      refine Tri.block ?_
      refine Tri.loopF [2, 3, 6, 7, 33, 34, 35, 36, 37, 38, 39, 8, 9, 40, 41] (fun (z : { k : Nat // k ≤ B.length }) => match z with | ⟨k, hk⟩ => [(42, isI (k : Int))]) (fun M => fun (z : { k : Nat // k ≤ B.length }) => match z with | ⟨k, hk⟩ => [(some b2, cellM ((rwU (fp q) A B i k).map isU)), (some b1, cellM [isU q])]) (fun (z : { k : Nat // k ≤ B.length }) => match z with | ⟨k, hk⟩ => B.length - k) (⟨0, Nat.zero_le _⟩) (Cv.mem (.cons (t := 42) (Has.t' rfl ?_) (.cons (t := 2) (Has.t rfl) (.cons (t := 3) (Has.t rfl) (.cons (t := 6) (Has.t rfl) (.cons (t := 7) (Has.t rfl) (.cons (t := 33) (Has.t rfl) (.cons (t := 34) (Has.t rfl) (.cons (t := 35) (Has.t rfl) (.cons (t := 36) (Has.t rfl) (.cons (t := 37) (Has.t rfl) (.cons (t := 38) (Has.t rfl) (.cons (t := 39) (Has.t rfl) (.cons (t := 8) (Has.t rfl) (.cons (t := 9) (Has.t rfl) (.cons (t := 40) (Has.t rfl) (.cons (t := 41) (Has.t rfl) .nil)))))))))))))))) ?_) ?_
      · rfl
      · rfl
      rintro ⟨k, hk⟩ K15 hK15
      refine Tri.cv (Cv.wk (.cons (t := 42) (Has.t rfl) (.cons (t := 2) (Has.t rfl) (.cons (t := 3) (Has.t rfl) (.cons (t := 6) (Has.t rfl) (.cons (t := 7) (Has.t rfl) (.cons (t := 33) (Has.t rfl) (.cons (t := 34) (Has.t rfl) (.cons (t := 35) (Has.t rfl) (.cons (t := 36) (Has.t rfl) (.cons (t := 37) (Has.t rfl) (.cons (t := 38) (Has.t rfl) (.cons (t := 39) (Has.t rfl) (.cons (t := 8) (Has.t rfl) (.cons (t := 9) (Has.t rfl) (.cons (t := 40) (Has.t rfl) (.cons (t := 41) (Has.t rfl) .nil))))))))))))))))) ?_
      refine Tri.memEq (M' := [(some b2, cellM ((rwU (fp q) A B i k).map isU)), (some b1, cellM [isU q])]) rfl ?_
      refine Tri.seq fun K16 hK16 => ?_
      refine Tri.region ?_
      refine st (OK1.ltI (Has.t rfl) (Has.t rfl)) rfl ?_
      refine nl ?_
      refine At.thn (hK16 _ _ ?_); clear hK16
      refine Tri.seq fun K17 hK17 => ?_
      refine Tri.cond (Has.t rfl) (fun hc3 => ?_) (fun hc3 => ?_)
      · have hc3 := BP.t hc3
        refine Tri.skip ?_
        refine At.thn (hK17 _ _ ?_); clear hK17
        refine Tri.seq fun K18 hK18 => ?_
        refine Tri.block ?_
        refine Tri.seq fun K19 hK19 => ?_
        refine Tri.region ?_
        refine st (OK1.mv (Has.t rfl)) rfl ?_
        refine st (OK1.ixP sl68 ty59 (Has.t rfl) (Has.t rfl) ⟨by omega, by omega⟩ (getD_some (d := 0) (by first | omega | (simp only [Int.toNat_natCast, List.length_set]; omega)))) rfl ?_
        refine st (OK1.loadP1 (Has.t rfl) ty59) rfl ?_
        refine st (OK1.as (Has.t rfl)) rfl ?_
        refine st (OK1.as (Has.t rfl)) rfl ?_
        refine nl ?_
        refine At.thn (hK19 _ _ ?_); clear hK19
        refine Tri.dr ?_
        refine DrG.st (i := 0) [] rfl rfl rfl (by kernel_rfl) (OKG.o rfl (OK1.mv (Has.t rfl))) ?_
        refine DrG.st (i := 1) [] rfl rfl rfl (by kernel_rfl) (OKG.o rfl (OK1.mv (Has.t rfl))) ?_
        refine DrG.st (i := 2) [] rfl rfl rfl (by kernel_rfl) (OKG.o rfl (OK1.mv (Has.t rfl))) ?_
        refine DrG.st (i := 3) [48, 49] rfl rfl rfl (by kernel_rfl) (OKG.o rfl (OK1.eq (OK1.addI (Has.t rfl) (Has.t rfl) (by first | omega | assumption) (by first | omega | assumption)) ((show isI _ = isI ((i + k : Nat) : Int) from isI_eq (by omega))))) ?_
        refine DrG.st (i := 4) [] rfl rfl rfl (by kernel_rfl) (OKG.o rfl (OK1.load (Has.t rfl) (i := 1) rfl ty66 rfl (Ss' := [_]) rfl)) ?_
        refine DrG.st (i := 5) [] rfl rfl rfl (by kernel_rfl) (OKG.o rfl (OK1.mv (Has.t rfl))) ?_
        refine DrG.st (i := 6) [] rfl rfl rfl (by kernel_rfl) (OKG.o rfl (OK1.mv (Has.t rfl))) ?_
        refine DrG.st (i := 7) [] rfl rfl rfl (by kernel_rfl) (OKG.o rfl (OK1.mv (Has.t rfl))) ?_
        refine DrG.st (i := 8) [53, 54] rfl rfl rfl (by kernel_rfl) (OKG.o rfl (OK1.eq (OK1.addI (Has.t rfl) (Has.t rfl) (by first | omega | assumption) (by first | omega | assumption)) ((show isI _ = isI ((i + k : Nat) : Int) from isI_eq (by omega))))) ?_
        refine DrG.st (i := 9) [52, 55] rfl rfl rfl (by kernel_rfl) (OKG.o rfl (OK1.eq (OK1.ixWin sl68 ty59 (Has.t rfl) (Has.t rfl) ⟨by omega, by omega⟩) (isPtr_eq (by first | exact ixo0 | exact ixo2 | exact ixo1)))) ?_
        refine DrG.st (i := 10) [56] rfl rfl rfl (by kernel_rfl) (OKG.o rfl (OK1.load1 (Has.t rfl) (i := 0) rfl ty59 (map_some (rwU_get (fp q) (show i + k < A.length + B.length - 1 by omega))))) ?_
        refine DrG.st (i := 11) [] rfl rfl rfl (by kernel_rfl) (OKG.o rfl (OK1.load (Has.t rfl) (i := 1) rfl ty66 rfl (Ss' := [_]) rfl)) ?_
        refine DrG.st (i := 12) [] rfl rfl rfl (by kernel_rfl) (OKG.o rfl (OK1.mv (Has.t rfl))) ?_
        refine DrG.st (i := 13) [] rfl rfl rfl (by kernel_rfl) (OKG.o rfl (OK1.mv (Has.t rfl))) ?_
        refine DrG.st (i := 14) [58, 59, 60] rfl rfl rfl (by kernel_rfl) (OKG.o rfl (OK1.call (gfp_Mul hq) (.cons (Has.t rfl) (.cons (Has.t rfl) (.cons (Has.t rfl) .nil))))) ?_
        refine DrG.st (i := 15) [51, 57, 61] rfl rfl rfl (by kernel_rfl) (OKG.o rfl (OK1.call (gfp_Add hq) (.cons (Has.t rfl) (.cons (Has.t rfl) (.cons (Has.t rfl) .nil))))) ?_
        refine DrG.fin (n := 16) mixed (by kernel_rfl) (by kernel_rfl) (by kernel_rfl) ?_
        refine Ops.cv (Cv.wk (.cons (t := 2) (Has.t rfl) (.cons (t := 3) (Has.t rfl) (.cons (t := 6) (Has.t rfl) (.cons (t := 7) (Has.t rfl) (.cons (t := 33) (Has.t rfl) (.cons (t := 34) (Has.t rfl) (.cons (t := 35) (Has.t rfl) (.cons (t := 36) (Has.t rfl) (.cons (t := 37) (Has.t rfl) (.cons (t := 38) (Has.t rfl) (.cons (t := 39) (Has.t rfl) (.cons (t := 8) (Has.t rfl) (.cons (t := 9) (Has.t rfl) (.cons (t := 40) (Has.t rfl) (.cons (t := 41) (Has.t rfl) (.cons (t := 42) (Has.t rfl) (.cons (t := 43) (Has.t rfl) (.cons (t := 44) (Has.t rfl) (.cons (t := 45) (Has.t rfl) (.cons (t := 46) (Has.t rfl) (.cons (t := 10) (Has.t rfl) (.cons (t := 11) (Has.t rfl) (.cons (t := 47) (Has.t rfl) (.cons (t := 48) (Has.t rfl) (.cons (t := 49) (Has.t rfl) (.cons (t := 50) (Has.t rfl) (.cons (t := 51) (Has.t rfl) (.cons (t := 52) (Has.t rfl) (.cons (t := 53) (Has.t rfl) (.cons (t := 54) (Has.t rfl) (.cons (t := 55) (Has.t rfl) (.cons (t := 56) (Has.t rfl) (.cons (t := 57) (Has.t rfl) (.cons (t := 58) (Has.t rfl) (.cons (t := 59) (Has.t rfl) (.cons (t := 60) (Has.t rfl) (.cons (t := 61) (Has.t rfl) (.cons (t := 62) (Has.t rfl) .nil))))))))))))))))))))))))))))))))))))))) ?_
        refine st (OK1.eq (OK1.ixWin sl68 ty59 (Has.t rfl) (Has.t rfl) ⟨by omega, by omega⟩) (isPtr_eq (by first | exact ixo0 | exact ixo2 | exact ixo1))) rfl ?_
        refine Ops.storeM (Has.t rfl) (Has.t rfl) (i := 0) rfl ty59 (by rw [rwU_len]; show i + k < _; omega) (M' := [(_, _), _]) rfl ?_
        refine nl ?_
        refine At.bln ?_
        refine At.thn (hK18 _ _ ?_); clear hK18
        refine Tri.region ?_
        refine st (OK1.addI (Has.t rfl) (Has.cI 1 rfl) (by first | omega | assumption) (by first | omega | assumption)) rfl ?_
        refine st (OK1.mv (Has.t rfl)) rfl ?_
        refine nl ?_
        refine At.thn ?_
        refine hK15 (⟨k + 1, by omega⟩) _ _ ?_ (Cv.mem (.cons (t := 42) (Has.t' rfl ?_) (.cons (t := 2) (Has.t rfl) (.cons (t := 3) (Has.t rfl) (.cons (t := 6) (Has.t rfl) (.cons (t := 7) (Has.t rfl) (.cons (t := 33) (Has.t rfl) (.cons (t := 34) (Has.t rfl) (.cons (t := 35) (Has.t rfl) (.cons (t := 36) (Has.t rfl) (.cons (t := 37) (Has.t rfl) (.cons (t := 38) (Has.t rfl) (.cons (t := 39) (Has.t rfl) (.cons (t := 8) (Has.t rfl) (.cons (t := 9) (Has.t rfl) (.cons (t := 40) (Has.t rfl) (.cons (t := 41) (Has.t rfl) .nil)))))))))))))))) ?_)
        · show B.length - (k + 1) < B.length - k; omega
        · exact isI_eq (by omega)
        · exact memL_eq (rwU_set hp (by omega))
      · have hc3 := BP.f hc3
        refine Tri.exit ?_
        refine At.the ?_
        refine At.the ?_
        refine At.blh ?_
        refine At.bln ?_
        refine At.thn (hK12 _ _ ?_); clear hK12
        refine Tri.region ?_
        refine st (OK1.addI (Has.t rfl) (Has.cI 1 rfl) (by first | omega | assumption) (by first | omega | assumption)) rfl ?_
        refine st (OK1.mv (Has.t rfl)) rfl ?_
        refine nl ?_
        refine At.thn ?_
        obtain rfl : k = B.length := by omega
        refine hK9 (⟨i + 1, by omega⟩) _ _ ?_ (Cv.mem (.cons (t := 35) (Has.t' rfl ?_) (.cons (t := 2) (Has.t rfl) (.cons (t := 3) (Has.t rfl) (.cons (t := 6) (Has.t rfl) (.cons (t := 7) (Has.t rfl) (.cons (t := 33) (Has.t rfl) (.cons (t := 34) (Has.t rfl) .nil))))))) ?_)
        · show A.length - (i + 1) < A.length - i; omega
        · exact isI_eq (by omega)
        · exact memL_eq (rwU_next _ _ _ _)
    · have hc2 := BP.f hc2
      refine Tri.exit ?_
      refine At.the ?_
      refine At.the ?_
      refine At.blh ?_
      refine At.thn (hK7 _ _ ?_); clear hK7
      refine Tri.cv (Cv.wk (.cons (t := 3) (Has.t rfl) (.cons (t := 6) (Has.t rfl) (.cons (t := 7) (Has.t rfl) .nil)))) ?_
      refine Tri.seq fun K20 hK20 => ?_
      refine Tri.cv (Cv.freeze' (t := 7) (i := 0) (ys := rwU (fp q) A B A.length 0) rfl rfl rfl (by rw [rwU_len]; omega) (by rw [List.drop_zero, List.take_of_length_le (by rw [rwU_len]; omega), show i = A.length by omega])) ?_
      refine Tri.memEq (M' := [_]) rfl ?_
      refine Tri.cv (Cv.wk (.cons (t := 3) (Has.t rfl) (.cons (t := 6) (Has.t rfl) (.cons (t := 7) (Has.t rfl) .nil)))) ?_
      refine Tri.region ?_
      refine st (OK1.load (Has.t rfl) (i := 0) rfl ty66 rfl (Ss' := [_]) rfl) rfl ?_
      refine st (OK1.mv (Has.t rfl)) rfl ?_
      refine st (OK1.call (fpoly_Norm (by rw [rwU_len]; omega)) (.cons (Has.t rfl) (.cons (Has.t rfl) .nil))) rfl ?_
      refine st (OK1.as (Has.t rfl)) rfl ?_
      refine nl ?_
      refine At.thn (hK20 _ _ ?_); clear hK20
      refine Tri.cv (Cv.wk (.cons (t := 6) (Has.t rfl) .nil)) ?_
      refine Tri.ret ?_
      refine rt1 (.inl rfl) Try.results47 rfl (.tmp (Has.t' rfl ?_) .nil)
      all_goals (exact SlM_eq (mul_nrm hp hA hB))
set_option maxHeartbeats 4000000 in
theorem fpoly_Derive {q : Nat} {xs : List Nat} (hq : q < 4294967296) (hn : xs.length ≤ 400000) : Ctr Try.prog 48 [Flat [isU q], isWords xs] (isWords (nrm (fp q) (derZ (zi xs) (xs.length - 1)))) := by
  refine Ctr.intro Try.func48 rfl (by kernel_rfl) Try.ntmps48 rfl fun w0 F0 => ?_
  refine Tri.cv (Cv.wk (.cons (t := 0) (Has.t rfl) (.cons (t := 1) (Has.t rfl) .nil))) ?_
  refine Tri.fact (Has.lenLt (Has.t (t := 1) rfl)) fun lt1 => ?_
  refine Tri.fact (Has.okW (Has.t (t := 1) rfl)) fun ok1 => ?_
  have hp := fp_pos q
  have hl := fp_lt hq
  refine Tri.seq fun K1 hK1 => ?_
  refine Tri.region ?_
  refine Ops.box (Has.t rfl) rfl fun b1 => ?_
  refine st (OK1.as (Has.cW (f := isU))) rfl ?_
  refine nl ?_
  refine At.thn (hK1 _ _ ?_); clear hK1
  refine Tri.seq fun K2 hK2 => ?_
  refine Tri.region ?_
  refine Ops.cv (Cv.grow0 (α := Nat) isU) ?_
  refine st (OK1.as (Has.cGr (α := Nat))) rfl ?_
  refine nl ?_
  refine At.thn (hK2 _ _ ?_); clear hK2
  refine Tri.seq fun K3 hK3 => ?_
  refine Tri.seq fun K4 hK4 => ?_
  refine Tri.region ?_
  refine st (OK1.as (Has.cI 1 rfl)) rfl ?_
  refine nl ?_
  refine At.thn (hK4 _ _ ?_); clear hK4
  refine Tri.block ?_
  refine Tri.loopF [1, 2, 4] (fun (z : { z : Nat × Gr Nat // 1 ≤ z.1 ∧ z.1 ≤ max xs.length 1 }) => match z with | ⟨(i, g), hI⟩ => [(6, isI (i : Int)), (5, isGr g (derU (fp q) xs (i - 1)).length)]) (fun M => fun (z : { z : Nat × Gr Nat // 1 ≤ z.1 ∧ z.1 ≤ max xs.length 1 }) => match z with | ⟨(i, g), hI⟩ => [grM isU g (derU (fp q) xs (i - 1)), (some b1, cellM [isU q])]) (fun (z : { z : Nat × Gr Nat // 1 ≤ z.1 ∧ z.1 ≤ max xs.length 1 }) => match z with | ⟨(i, g), hI⟩ => xs.length - i) (⟨(1, Gr.nil), by omega, by omega⟩) (Cv.mem (.cons (t := 6) (Has.t' rfl ?_) (.cons (t := 5) (Has.t' rfl ?_) (.cons (t := 1) (Has.t rfl) (.cons (t := 2) (Has.t rfl) (.cons (t := 4) (Has.t rfl) .nil))))) ?_) ?_
  · rfl
  · rfl
  · rfl
  rintro ⟨⟨i, g⟩, hI⟩ K5 hK5
  refine Tri.cv (Cv.wk (.cons (t := 6) (Has.t rfl) (.cons (t := 5) (Has.t rfl) (.cons (t := 1) (Has.t rfl) (.cons (t := 2) (Has.t rfl) (.cons (t := 4) (Has.t rfl) .nil)))))) ?_
  refine Tri.memEq (M' := [grM isU g (derU (fp q) xs (i - 1)), (some b1, cellM [isU q])]) rfl ?_
  simp only [] at hI
  have hdl := derU_len (fp q) xs (i - 1)
  obtain ⟨j, rfl⟩ : ∃ j, i = j + 1 := ⟨i - 1, by omega⟩
  refine Tri.seq fun K6 hK6 => ?_
  refine Tri.seq fun K7 hK7 => ?_
  refine Tri.region ?_
  refine st (OK1.mv (Has.t rfl)) rfl ?_
  refine st (OK1.mv (Has.t rfl)) rfl ?_
  refine st (OK1.len sl68 (Has.t rfl)) rfl ?_
  refine st (OK1.ltI (Has.t rfl) (Has.t rfl)) rfl ?_
  refine nl ?_
  refine At.thn (hK7 _ _ ?_); clear hK7
  refine Tri.cond (Has.t rfl) (fun hc1 => ?_) (fun hc1 => ?_)
  · have hc1 := BP.t hc1
    refine Tri.skip ?_
    refine At.thn (hK6 _ _ ?_); clear hK6
    refine Tri.seq fun K8 hK8 => ?_
    refine Tri.block ?_
    refine Tri.dr ?_
    refine DrG.st (i := 0) [] rfl rfl rfl (by kernel_rfl) (OKG.o rfl (OK1.mv (Has.t rfl))) ?_
    refine DrG.st (i := 1) [] rfl rfl rfl (by kernel_rfl) (OKG.o rfl (OK1.load (Has.t rfl) (i := 1) rfl ty66 rfl (Ss' := [_]) rfl)) ?_
    refine DrG.st (i := 2) [] rfl rfl rfl (by kernel_rfl) (OKG.o rfl (OK1.mv (Has.t rfl))) ?_
    refine DrG.st (i := 3) [] rfl rfl rfl (by kernel_rfl) (OKG.o rfl (OK1.mv (Has.t rfl))) ?_
    refine DrG.st (i := 4) [15, 16] rfl rfl rfl (by kernel_rfl) (OKG.o rfl (OK1.ixP sl68 ty59 (Has.t rfl) (Has.t rfl) ⟨by omega, by omega⟩ (getD_some (d := 0) (by first | omega | (simp only [Int.toNat_natCast, List.length_set]; omega))))) ?_
    refine DrG.st (i := 5) [17] rfl rfl rfl (by kernel_rfl) (OKG.o rfl (OK1.eq (OK1.loadP1 (Has.t rfl) ty59) ((show isU _ = isU (xs.getD (j + 1) 0) from isU_eq rfl)))) ?_
    refine DrG.st (i := 6) [] rfl rfl rfl (by kernel_rfl) (OKG.o rfl (OK1.mv (Has.t rfl))) ?_
    refine DrG.st (i := 7) [19] rfl rfl rfl (by kernel_rfl) (OKG.o rfl (OK1.eq (OK1.convIU un3 un59 (Has.t rfl) (by first | omega | assumption) (by first | omega | assumption)) ((show isU _ = isU (j + 1) from isU_eq (by omega))))) ?_
    refine DrG.st (i := 8) [14, 18, 20] rfl rfl rfl (by kernel_rfl) (OKG.o rfl (OK1.call (gfp_Mul hq) (.cons (Has.t rfl) (.cons (Has.t rfl) (.cons (Has.t rfl) .nil))))) ?_
    refine DrG.st (i := 9) [21] rfl rfl rfl (by kernel_rfl) (OKG.o rfl (OK1.buildS [isU 0] sl68 ty59 zero59 (fun _ _ => ⟨⟨rfl, by decide⟩, trivial⟩) rfl rfl (.cons (Has.t rfl) rfl rfl rfl .nil) rfl (S := SlM isU [xs.getD (j + 1) 0 * (j + 1) % fp q]) rfl)) ?_
    refine DrG.fin (n := 10) mixed (by kernel_rfl) (by kernel_rfl) (by kernel_rfl) ?_
    refine Ops.cv (Cv.wk (.cons (t := 1) (Has.t rfl) (.cons (t := 2) (Has.t rfl) (.cons (t := 4) (Has.t rfl) (.cons (t := 6) (Has.t rfl) (.cons (t := 5) (Has.t rfl) (.cons (t := 7) (Has.t rfl) (.cons (t := 8) (Has.t rfl) (.cons (t := 9) (Has.t rfl) (.cons (t := 10) (Has.t rfl) (.cons (t := 13) (Has.t rfl) (.cons (t := 14) (Has.t rfl) (.cons (t := 15) (Has.t rfl) (.cons (t := 16) (Has.t rfl) (.cons (t := 17) (Has.t rfl) (.cons (t := 18) (Has.t rfl) (.cons (t := 19) (Has.t rfl) (.cons (t := 20) (Has.t rfl) (.cons (t := 21) (Has.t rfl) (.cons (t := 22) (Has.t rfl) .nil)))))))))))))))))))) ?_
    refine Ops.appendG (f := isU) (u := 0) sl68 ty59 zero59 (fun _ _ => ⟨⟨rfl, by decide⟩, trivial⟩) (fun _ => inferInstance) by59 (Has.t rfl) (i := 0) rfl (Has.t rfl) (by rw [derU_len]; show j + 1 - 1 + 1 ≤ _; omega) (by simp) rfl fun gr1 => ?_
    refine Ops.memEq (M' := [grM _ _ _, _]) rfl ?_
    refine st (OK1.as (Has.t rfl)) rfl ?_
    refine nl ?_
    refine At.bln ?_
    refine At.thn (hK8 _ _ ?_); clear hK8
    refine Tri.region ?_
    refine st (OK1.mv (Has.t rfl)) rfl ?_
    refine st (OK1.addI (Has.t rfl) (Has.cI 1 rfl) (by first | omega | assumption) (by first | omega | assumption)) rfl ?_
    refine st (OK1.as (Has.t rfl)) rfl ?_
    refine nl ?_
    refine At.thn ?_
    refine hK5 (⟨(j + 1 + 1, gr1), by show 1 ≤ j + 1 + 1 ∧ j + 1 + 1 ≤ _; omega⟩) _ _ ?_ (Cv.mem (.cons (t := 6) (Has.t' rfl ?_) (.cons (t := 5) (Has.t' rfl ?_) (.cons (t := 1) (Has.t rfl) (.cons (t := 2) (Has.t rfl) (.cons (t := 4) (Has.t rfl) .nil))))) ?_)
    · show xs.length - (j + 1 + 1) < xs.length - (j + 1); omega
    · exact isI_eq (by omega)
    · exact isGr_eq (by show _ = (derU (fp q) xs (j + 1)).length; rw [← derU_succ, List.length_append]; rfl)
    · exact grM_eq (derU_succ _ _ _)
  · have hc1 := BP.f hc1
    refine Tri.exit ?_
    refine At.the ?_
    refine At.the ?_
    refine At.blh ?_
    refine At.thn (hK3 _ _ ?_); clear hK3
    refine Tri.cv (Cv.wk (.cons (t := 2) (Has.t rfl) (.cons (t := 4) (Has.t rfl) (.cons (t := 5) (Has.t rfl) .nil)))) ?_
    refine Tri.seq fun K9 hK9 => ?_
    refine Tri.cv (Cv.freezeG (t := 5) (i := 0) (ys := derU (fp q) xs j) rfl rfl rfl) ?_
    refine Tri.memEq (M' := [_]) rfl ?_
    refine Tri.cv (Cv.wk (.cons (t := 2) (Has.t rfl) (.cons (t := 4) (Has.t rfl) (.cons (t := 5) (Has.t rfl) .nil)))) ?_
    refine Tri.region ?_
    refine st (OK1.load (Has.t rfl) (i := 0) rfl ty66 rfl (Ss' := [_]) rfl) rfl ?_
    refine st (OK1.mv (Has.t rfl)) rfl ?_
    refine st (OK1.call (fpoly_Norm (by rw [derU_len]; omega)) (.cons (Has.t rfl) (.cons (Has.t rfl) .nil))) rfl ?_
    refine st (OK1.as (Has.t rfl)) rfl ?_
    refine nl ?_
    refine At.thn (hK9 _ _ ?_); clear hK9
    refine Tri.cv (Cv.wk (.cons (t := 4) (Has.t rfl) .nil)) ?_
    refine Tri.ret ?_
    refine rt1 (.inl rfl) Try.results48 rfl (.tmp (Has.t' rfl ?_) .nil)
    all_goals (exact SlM_eq (by rw [der_nrm (by omega), show xs.length - 1 = j by omega]))
set_option maxHeartbeats 4000000 in
theorem ref09_Same {xs ys : List Nat} : Ctr Try.prog 45 [isWords xs, isWords ys] (isB (decide (xs = ys))) := by
  refine Ctr.intro Try.func45 rfl (by kernel_rfl) Try.ntmps45 rfl fun w0 F0 => ?_
  refine Tri.cv (Cv.wk (.cons (t := 0) (Has.t rfl) (.cons (t := 1) (Has.t rfl) .nil))) ?_
  refine Tri.fact (Has.lenLt (Has.t (t := 0) rfl)) fun lt0 => ?_
  refine Tri.fact (Has.okW (Has.t (t := 0) rfl)) fun ok0 => ?_
  refine Tri.fact (Has.lenLt (Has.t (t := 1) rfl)) fun lt1 => ?_
  refine Tri.fact (Has.okW (Has.t (t := 1) rfl)) fun ok1 => ?_
  refine Tri.seq fun K1 hK1 => ?_
  refine Tri.region ?_
  refine st (OK1.as (Has.cB false)) rfl ?_
  refine nl ?_
  refine At.thn (hK1 _ _ ?_); clear hK1
  refine Tri.seq fun K2 hK2 => ?_
  refine Tri.seq fun K3 hK3 => ?_
  refine Tri.region ?_
  refine st (OK1.mv (Has.t rfl)) rfl ?_
  refine st (OK1.len sl41 (Has.t rfl)) rfl ?_
  refine st (OK1.mv (Has.t rfl)) rfl ?_
  refine st (OK1.len sl41 (Has.t rfl)) rfl ?_
  refine st (OK1.neI (Has.t rfl) (Has.t rfl)) rfl ?_
  refine nl ?_
  refine At.thn (hK3 _ _ ?_); clear hK3
  refine Tri.cond (Has.t rfl) (fun hc1 => ?_) (fun hc1 => ?_)
  · have hc1 := BP.t hc1
    have HL := hc1
    refine Tri.seq fun K4 hK4 => ?_
    refine Tri.region ?_
    refine st (OK1.as (Has.cB false)) rfl ?_
    refine nl ?_
    refine At.thn (hK4 _ _ ?_); clear hK4
    refine Tri.cv (Cv.wk (.cons (t := 0) (Has.t rfl) (.cons (t := 1) (Has.t rfl) (.cons (t := 4) (Has.t rfl) .nil)))) ?_
    refine Tri.ret ?_
    refine At.thr ?_
    refine rt1 (.inl rfl) Try.results45 rfl (.tmp (Has.t' rfl ?_) .nil)
    all_goals (exact isB_eq (decide_eq_false fun h => by rw [h] at HL; omega).symm)
  · have hc1 := BP.f hc1
    have hll : xs.length = ys.length := (by omega)
    refine Tri.skip ?_
    refine At.thn (hK2 _ _ ?_); clear hK2
    refine Tri.cv (Cv.wk (.cons (t := 0) (Has.t rfl) (.cons (t := 1) (Has.t rfl) (.cons (t := 4) (Has.t rfl) .nil)))) ?_
    refine Tri.seq fun K5 hK5 => ?_
    refine Tri.seq fun K6 hK6 => ?_
    refine Tri.region ?_
    refine st (OK1.as (Has.cI 0 rfl)) rfl ?_
    refine nl ?_
    refine At.thn (hK6 _ _ ?_); clear hK6
    refine Tri.block ?_
    refine Tri.loopF [0, 1] (fun (z : { i : Nat // i ≤ xs.length ∧ ∀ j, j < i → xs.getD j 0 = ys.getD j 0 }) => match z with | ⟨i, hI⟩ => [(5, isI (i : Int))]) (fun M => fun (z : { i : Nat // i ≤ xs.length ∧ ∀ j, j < i → xs.getD j 0 = ys.getD j 0 }) => match z with | ⟨i, hI⟩ => M) (fun (z : { i : Nat // i ≤ xs.length ∧ ∀ j, j < i → xs.getD j 0 = ys.getD j 0 }) => match z with | ⟨i, hI⟩ => xs.length - i) (⟨0, Nat.zero_le _, fun j h => absurd h (Nat.not_lt_zero _)⟩) (Cv.mem (.cons (t := 5) (Has.t' rfl ?_) (.cons (t := 0) (Has.t rfl) (.cons (t := 1) (Has.t rfl) .nil))) ?_) ?_
    · rfl
    · rfl
    rintro ⟨i, hi, hj⟩ K7 hK7
    refine Tri.cv (Cv.wk (.cons (t := 5) (Has.t rfl) (.cons (t := 0) (Has.t rfl) (.cons (t := 1) (Has.t rfl) .nil)))) ?_
    refine Tri.seq fun K8 hK8 => ?_
    refine Tri.seq fun K9 hK9 => ?_
    refine Tri.region ?_
    refine st (OK1.mv (Has.t rfl)) rfl ?_
    refine st (OK1.mv (Has.t rfl)) rfl ?_
    refine st (OK1.len sl41 (Has.t rfl)) rfl ?_
    refine st (OK1.ltI (Has.t rfl) (Has.t rfl)) rfl ?_
    refine nl ?_
    refine At.thn (hK9 _ _ ?_); clear hK9
    refine Tri.cond (Has.t rfl) (fun hc2 => ?_) (fun hc2 => ?_)
    · have hc2 := BP.t hc2
      refine Tri.skip ?_
      refine At.thn (hK8 _ _ ?_); clear hK8
      refine Tri.seq fun K10 hK10 => ?_
      refine Tri.block ?_
      refine Tri.seq fun K11 hK11 => ?_
      refine Tri.dr ?_
      refine DrG.st (i := 0) [] rfl rfl rfl (by kernel_rfl) (OKG.o rfl (OK1.mv (Has.t rfl))) ?_
      refine DrG.st (i := 1) [] rfl rfl rfl (by kernel_rfl) (OKG.o rfl (OK1.mv (Has.t rfl))) ?_
      refine DrG.st (i := 2) [17, 18] rfl rfl rfl (by kernel_rfl) (OKG.o rfl (OK1.ixP sl41 ty59 (Has.t rfl) (Has.t rfl) ⟨by omega, by omega⟩ (getD_some (d := 0) (by first | omega | (simp only [Int.toNat_natCast, List.length_set]; omega))))) ?_
      refine DrG.st (i := 3) [19] rfl rfl rfl (by kernel_rfl) (OKG.o rfl (OK1.eq (OK1.loadP1 (Has.t rfl) ty59) ((show isU _ = isU (xs.getD i 0) from isU_eq rfl)))) ?_
      refine DrG.st (i := 4) [] rfl rfl rfl (by kernel_rfl) (OKG.o rfl (OK1.mv (Has.t rfl))) ?_
      refine DrG.st (i := 5) [] rfl rfl rfl (by kernel_rfl) (OKG.o rfl (OK1.mv (Has.t rfl))) ?_
      refine DrG.st (i := 6) [21, 22] rfl rfl rfl (by kernel_rfl) (OKG.o rfl (OK1.ixP sl41 ty59 (Has.t rfl) (Has.t rfl) ⟨by omega, by omega⟩ (getD_some (d := 0) (by first | omega | (simp only [Int.toNat_natCast, List.length_set]; omega))))) ?_
      refine DrG.st (i := 7) [23] rfl rfl rfl (by kernel_rfl) (OKG.o rfl (OK1.eq (OK1.loadP1 (Has.t rfl) ty59) ((show isU _ = isU (ys.getD i 0) from isU_eq rfl)))) ?_
      refine DrG.fin (n := 8) mixed (by kernel_rfl) (by kernel_rfl) (by kernel_rfl) ?_
      refine Ops.cv (Cv.wk (.cons (t := 0) (Has.t rfl) (.cons (t := 1) (Has.t rfl) (.cons (t := 5) (Has.t rfl) (.cons (t := 11) (Has.t rfl) (.cons (t := 12) (Has.t rfl) (.cons (t := 13) (Has.t rfl) (.cons (t := 14) (Has.t rfl) (.cons (t := 17) (Has.t rfl) (.cons (t := 18) (Has.t rfl) (.cons (t := 19) (Has.t rfl) (.cons (t := 20) (Has.t rfl) (.cons (t := 21) (Has.t rfl) (.cons (t := 22) (Has.t rfl) (.cons (t := 23) (Has.t rfl) (.cons (t := 24) (Has.t rfl) .nil)))))))))))))))) ?_
      refine st (OK1.neU (Has.t rfl) (Has.t rfl)) rfl ?_
      refine nl ?_
      refine At.thn (hK11 _ _ ?_); clear hK11
      refine Tri.cond (Has.t rfl) (fun hc3 => ?_) (fun hc3 => ?_)
      · have hc3 := BP.t hc3
        have HQ := hc3
        refine Tri.seq fun K12 hK12 => ?_
        refine Tri.region ?_
        refine st (OK1.as (Has.cB false)) rfl ?_
        refine nl ?_
        refine At.thn (hK12 _ _ ?_); clear hK12
        refine Tri.ret ?_
        refine At.blr ?_
        refine At.thr ?_
        refine At.thr ?_
        refine At.blr ?_
        refine At.thr ?_
        refine rt1 (.inl rfl) Try.results45 rfl (.tmp (Has.t' rfl ?_) .nil)
        all_goals (exact isB_eq (decide_eq_false fun h => HQ (by rw [h])).symm)
      · have hc3 := BP.f hc3
        have HQ : xs.getD i 0 = ys.getD i 0 := Classical.not_not.1 (by simpa using hc3)
        refine Tri.skip ?_
        refine At.bln ?_
        refine At.thn (hK10 _ _ ?_); clear hK10
        refine Tri.region ?_
        refine st (OK1.mv (Has.t rfl)) rfl ?_
        refine st (OK1.addI (Has.t rfl) (Has.cI 1 rfl) (by first | omega | assumption) (by first | omega | assumption)) rfl ?_
        refine st (OK1.as (Has.t rfl)) rfl ?_
        refine nl ?_
        refine At.thn ?_
        refine hK7 (⟨i + 1, by omega, fun j h => by rcases Nat.lt_or_ge j i with h2 | h2; exact hj j h2; rw [show j = i by omega]; exact HQ⟩) _ _ ?_ (Cv.mem (.cons (t := 5) (Has.t' rfl ?_) (.cons (t := 0) (Has.t rfl) (.cons (t := 1) (Has.t rfl) .nil))) ?_)
        · show xs.length - (i + 1) < xs.length - i; omega
        · exact isI_eq (by omega)
        · rfl
    · have hc2 := BP.f hc2
      refine Tri.exit ?_
      refine At.the ?_
      refine At.the ?_
      refine At.blh ?_
      refine At.thn (hK5 _ _ ?_); clear hK5
      refine Tri.cv (Cv.wk .nil) ?_
      refine Tri.seq fun K13 hK13 => ?_
      refine Tri.region ?_
      refine st (OK1.as (Has.cB true)) rfl ?_
      refine nl ?_
      refine At.thn (hK13 _ _ ?_); clear hK13
      refine Tri.ret ?_
      refine rt1 (.inl rfl) Try.results45 rfl (.tmp (Has.t' rfl ?_) .nil)
      all_goals (exact isB_eq (decide_eq_true (eqL hll fun j h => hj j (by omega))).symm)
set_option maxHeartbeats 4000000 in
theorem law09_OfR {n : Nat} : Ctr Try.prog 40 [isK .u8 (n : Int)] (Flat [isU (ptab (n % 12))]) := by
  refine Ctr.intro Try.func40 rfl (by kernel_rfl) Try.ntmps40 rfl fun w0 F0 => ?_
  refine Tri.cv (Cv.wk (.cons (t := 0) (Has.t rfl) .nil)) ?_
  refine Tri.seq fun K1 hK1 => ?_
  refine Tri.region ?_
  refine Ops.alloc [isU 0] zero66 (fun _ _ => ⟨⟨rfl, by decide⟩, trivial⟩) rfl fun b1 => ?_
  refine nl ?_
  refine At.thn (hK1 _ _ ?_); clear hK1
  refine Tri.seq fun K2 hK2 => ?_
  refine Tri.region ?_
  refine st (OK1.mv (Has.t rfl)) rfl ?_
  refine st (OK1.call ref08_P (.cons (Has.t rfl) .nil)) rfl ?_
  refine st (OK1.call (gfp_New_yes (ptab_pr _)) (.cons (Has.t rfl) .nil)) rfl ?_
  refine st (OK1.mv (Has.t rfl)) rfl ?_
  refine st (OK1.ext (Has.t rfl) rfl) rfl ?_
  refine st (OK1.ext (Has.t rfl) rfl) rfl ?_
  refine Ops.alloc [isU 0] zero66 (fun _ _ => ⟨⟨rfl, by decide⟩, trivial⟩) rfl fun b2 => ?_
  refine Ops.store (Has.t rfl) (Has.t rfl) (i := 0) rfl ty66 rfl rfl (Ss' := [_]) rfl (M' := [(some _, cellM [_]), _]) rfl ?_
  refine st (OK1.as (Has.t rfl)) rfl ?_
  refine nl ?_
  refine At.thn (hK2 _ _ ?_); clear hK2
  refine Tri.cv (Cv.wk (.cons (t := 2) (Has.t rfl) (.cons (t := 3) (Has.t rfl) .nil))) ?_
  refine Tri.seq fun K3 hK3 => ?_
  refine Tri.region ?_
  refine st (OK1.load (Has.t rfl) (i := 0) rfl ty66 rfl (Ss' := [_]) rfl) rfl ?_
  refine Ops.store (Has.t rfl) (Has.t rfl) (i := 1) rfl ty66 rfl rfl (Ss' := [_]) rfl (M' := [_, (some _, cellM [_])]) rfl ?_
  refine nl ?_
  refine At.thn (hK3 _ _ ?_); clear hK3
  refine Tri.ret ?_
  refine rt1 (.inl rfl) Try.results40 rfl (.cell rfl (i := 1) rfl ty66 rfl ?_ .nil)
  all_goals (rfl)
end Go.Proofs.Ytgkbekcpmbjbdaa
/- Contracts: the greatest common divisor with what makes it; rests, inverses. -/
namespace Go.Proofs.Ytgkbekcpmbjbdaa
open Go.En Go.RowKit
set_option linter.unusedVariables false
set_option maxRecDepth 10000
open Go.Nt
set_option maxHeartbeats 4000000 in
theorem modn_Mod {m n : Bool} {xs ys : List Nat} (hx : (List.length (words (val xs))) < 4294700000) (hy : (List.length (words (val ys))) < 4294700000) : Ctr Try.prog 136 [Flat [isB m, isWords xs], Flat [isB n, isWords ys]] (isTup [isZ (if 0 < zv n ys then zv m xs % zv n ys else 0), isB (decide (0 < zv n ys))]) := by
  refine Ctr.intro Try.func136 rfl (by kernel_rfl) Try.ntmps136 rfl fun w0 F0 => ?_
  refine Tri.cv (Cv.wk (.cons (t := 0) (Has.t rfl) (.cons (t := 1) (Has.t rfl) .nil))) ?_
  refine Tri.fact (Has.okZ (Has.t (t := 0) rfl)) fun okz0 => ?_
  refine Tri.fact (Has.okZ (Has.t (t := 1) rfl)) fun okz1 => ?_
  refine Tri.seq fun K1 hK1 => ?_
  refine Tri.region ?_
  refine Ops.box (Has.t rfl) rfl fun b1 => ?_
  refine Ops.box (Has.t rfl) rfl fun b2 => ?_
  refine Ops.alloc [isB false, SlM isU []] zero44 (fun _ _ => ⟨rfl, nilM _ _, trivial⟩) rfl fun b3 => ?_
  refine st (OK1.as (Has.cB false)) rfl ?_
  refine nl ?_
  refine At.thn (hK1 _ _ ?_); clear hK1
  refine Tri.seq fun K2 hK2 => ?_
  refine Tri.seq fun K3 hK3 => ?_
  refine Tri.region ?_
  refine st (OK1.load (Has.t rfl) (i := 1) rfl ty44 rfl (Ss' := [_, _]) rfl) rfl ?_
  refine st (OK1.call (zint_Sign (by first | with_reducible assumption | omega | (simp only [val_words, zv_nf]; omega) | (simp only [val_words, zv_nf, Int.natAbs_natCast]; omega) | (simp only [val_words]; exact Nat.le_trans (nw_small' (by omega)) (by decide)))) (.cons (Has.t rfl) .nil)) rfl ?_
  refine st (OK1.leI (Has.t rfl) (Has.cI 0 rfl)) rfl ?_
  refine nl ?_
  refine At.thn (hK3 _ _ ?_); clear hK3
  refine Tri.cond (Has.t rfl) (fun hc1 => ?_) (fun hc1 => ?_)
  · have hc1 := BP.t hc1
    have hN : ¬ 0 < zv n ys := fun e => by have := (sgn_pos _).2 e; omega
    refine Tri.seq fun K4 hK4 => ?_
    refine Tri.region ?_
    refine st (OK1.eq (OK1.build [isB false, SlM isU []] pl44 zero44 (fun _ _ => ⟨rfl, nilM _ _, trivial⟩) .nil (Z'' := [_, _]) rfl) (isZ0)) rfl ?_
    refine Ops.store (Has.t rfl) (Has.t rfl) (i := 0) rfl ty44 rfl rfl (Ss' := [_, _]) rfl (M' := [(some _, cellM [_, _]), _, _]) rfl ?_
    refine st (OK1.as (Has.cB false)) rfl ?_
    refine nl ?_
    refine At.thn (hK4 _ _ ?_); clear hK4
    refine Tri.cv (Cv.wk (.cons (t := 2) (Has.t rfl) (.cons (t := 3) (Has.t rfl) (.cons (t := 4) (Has.t rfl) (.cons (t := 5) (Has.t rfl) .nil))))) ?_
    refine Tri.ret ?_
    refine At.thr ?_
    refine rtN (.inl rfl) Try.results136 rfl rfl (.cell rfl (i := 0) rfl ty44 rfl ?_ (.tmp (Has.t' rfl ?_) .nil))
    · exact isZ_eq (if_neg hN).symm
    · exact isB_eq (decide_eq_false hN).symm
  · have hc1 := BP.f hc1
    have hP : 0 < zv n ys := (sgn_pos _).1 (by omega)
    refine Tri.skip ?_
    refine At.thn (hK2 _ _ ?_); clear hK2
    refine Tri.cv (Cv.wk (.cons (t := 2) (Has.t rfl) (.cons (t := 3) (Has.t rfl) (.cons (t := 4) (Has.t rfl) (.cons (t := 5) (Has.t rfl) .nil))))) ?_
    refine Tri.seq fun K5 hK5 => ?_
    refine Tri.region ?_
    refine st (OK1.load (Has.t rfl) (i := 2) rfl ty44 rfl (Ss' := [_, _]) rfl) rfl ?_
    refine st (OK1.load (Has.t rfl) (i := 1) rfl ty44 rfl (Ss' := [_, _]) rfl) rfl ?_
    refine st (OK1.call (zint_Euclid (by first | with_reducible assumption | omega | (simp only [val_words, zv_nf]; omega) | (simp only [val_words, zv_nf, Int.natAbs_natCast]; omega) | (simp only [val_words]; exact Nat.le_trans (nw_small' (by omega)) (by decide))) (by first | with_reducible assumption | omega | (simp only [val_words, zv_nf]; omega) | (simp only [val_words, zv_nf, Int.natAbs_natCast]; omega) | (simp only [val_words]; exact Nat.le_trans (nw_small' (by omega)) (by decide)))) (.cons (Has.t rfl) (.cons (Has.t rfl) .nil))) rfl ?_
    refine st (OK1.mv (Has.t rfl)) rfl ?_
    refine st (OK1.ext (Has.t rfl) rfl) rfl ?_
    refine st (OK1.ext (Has.t rfl) rfl) rfl ?_
    refine st (OK1.ext (Has.t rfl) rfl) rfl ?_
    refine Ops.alloc [isB false, SlM isU []] zero44 (fun _ _ => ⟨rfl, nilM _ _, trivial⟩) rfl fun b4 => ?_
    refine Ops.alloc [isB false, SlM isU []] zero44 (fun _ _ => ⟨rfl, nilM _ _, trivial⟩) rfl fun b5 => ?_
    refine Ops.store (Has.t rfl) (Has.t rfl) (i := 1) rfl ty44 rfl rfl (Ss' := [_, _]) rfl (M' := [_, (some _, cellM [_, _]), _, _, _]) rfl ?_
    refine Ops.store (Has.t rfl) (Has.t rfl) (i := 0) rfl ty44 rfl rfl (Ss' := [_, _]) rfl (M' := [(some _, cellM [_, _]), _, _, _, _]) rfl ?_
    refine st (OK1.as (Has.t rfl)) rfl ?_
    refine nl ?_
    refine At.thn (hK5 _ _ ?_); clear hK5
    refine Tri.cv (Cv.wk (.cons (t := 4) (Has.t rfl) (.cons (t := 5) (Has.t rfl) (.cons (t := 7) (Has.t rfl) (.cons (t := 8) (Has.t rfl) .nil))))) ?_
    refine Tri.seq fun K6 hK6 => ?_
    refine Tri.region ?_
    refine st (OK1.load (Has.t rfl) (i := 0) rfl ty44 rfl (Ss' := [_, _]) rfl) rfl ?_
    refine st (OK1.mv (Has.t rfl)) rfl ?_
    refine Ops.store (Has.t rfl) (Has.t rfl) (i := 2) rfl ty44 rfl rfl (Ss' := [_, _]) rfl (M' := [_, _, (some _, cellM [_, _]), _, _]) rfl ?_
    refine st (OK1.as (Has.t rfl)) rfl ?_
    refine nl ?_
    refine At.thn (hK6 _ _ ?_); clear hK6
    refine Tri.ret ?_
    refine rtN (.inl rfl) Try.results136 rfl rfl (.cell rfl (i := 2) rfl ty44 rfl ?_ (.tmp (Has.t' rfl ?_) .nil))
    · exact isZ_eq (by rw [if_neg (by omega), if_pos hP])
    · exact isB_eq (decide_eq_decide.2 ⟨fun _ => hP, fun _ => by omega⟩)
end Go.Proofs.Ytgkbekcpmbjbdaa
/- Contracts: whole numbers as elements of a field. -/
namespace Go.Proofs.Ytgkbekcpmbjbdaa
open Go.En Go.RowKit
set_option linter.unusedVariables false
set_option maxRecDepth 10000
open Go.Nt
set_option maxHeartbeats 4000000 in
theorem gfp_Of {q : Nat} {m : Bool} {xs : List Nat} (hq : q < 4294967296) (hx : (List.length (words (val xs))) < 4294700000) : Ctr Try.prog 95 [Flat [isU q], Flat [isB m, isWords xs]] (isU ((zv m xs % ((Gf.fp q : Nat) : Int)).toNat)) := by
  refine Ctr.intro Try.func95 rfl (by kernel_rfl) Try.ntmps95 rfl fun w0 F0 => ?_
  refine Tri.cv (Cv.wk (.cons (t := 0) (Has.t rfl) (.cons (t := 1) (Has.t rfl) .nil))) ?_
  refine Tri.fact (Has.okZ (Has.t (t := 1) rfl)) fun okz1 => ?_
  have hp := Gf.fp_pos q
  have hl := Gf.fp_lt hq
  have hw := nw_small' (n := Gf.fp q) (by omega)
  have hfw : zv false (words (Gf.fp q)) = ((Gf.fp q : Nat) : Int) := by rw [from_word, if_neg (by decide)]
  refine Tri.seq fun K1 hK1 => ?_
  refine Tri.region ?_
  refine Ops.box (Has.t rfl) rfl fun b1 => ?_
  refine Ops.box (Has.t rfl) rfl fun b2 => ?_
  refine st (OK1.as (Has.cU 0 rfl)) rfl ?_
  refine nl ?_
  refine At.thn (hK1 _ _ ?_); clear hK1
  refine Tri.seq fun K2 hK2 => ?_
  refine Tri.drh [true, true] (Ms := [_, _]) rfl ?_
  refine DrH.st (i := 0) [] rfl rfl rfl (by kernel_rfl) (OKG.o rfl (OK1.load (Has.t rfl) (i := 0) rfl ty44 rfl (Ss' := [_, _]) rfl)) ?_
  refine DrH.st (i := 1) [] rfl rfl rfl (by kernel_rfl) (OKG.o rfl (OK1.load (Has.t rfl) (i := 1) rfl ty66 rfl (Ss' := [_]) rfl)) ?_
  refine DrH.st (i := 2) [11] rfl rfl rfl (by kernel_rfl) (OKG.o rfl (OK1.call (gfp_P) (.cons (Has.t rfl) .nil))) ?_
  refine DrH.st (i := 3) [12] rfl rfl rfl (by kernel_rfl) (OKG.o rfl (OK1.call (nat_Of) (.cons (Has.t rfl) .nil))) ?_
  refine DrH.st (i := 4) [13] rfl rfl rfl (by kernel_rfl) (OKG.o rfl (OK1.eq (OK1.call (zint_From (by first | with_reducible assumption | omega | (simp only [val_words, zv_nf]; omega) | (simp only [val_words, zv_nf, Int.natAbs_natCast]; omega))) (.cons (Has.t rfl) (.cons (Has.cB false) .nil))) ((show isZ _ = isZ ((Gf.fp q : Nat) : Int) from isZ_eq hfw)))) ?_
  refine DrH.st (i := 5) [10, 14] rfl rfl rfl (by kernel_rfl) (OKG.o rfl (OK1.eq (OK1.call (modn_Mod (by first | with_reducible assumption | omega | (simp only [val_words, zv_nf]; omega) | (simp only [val_words, zv_nf, Int.natAbs_natCast]; omega)) (by first | with_reducible assumption | omega | (simp only [val_words, zv_nf]; omega) | (simp only [val_words, zv_nf, Int.natAbs_natCast]; omega))) (.cons (Has.t rfl) (.cons (Has.t rfl) .nil))) ((by simp only [zv_nf]; rw [if_pos (show 0 < ((Gf.fp q : Nat) : Int) by omega)])))) ?_
  refine DrH.st (i := 6) [15] rfl rfl rfl (by kernel_rfl) (OKG.o rfl (OK1.mv (Has.t rfl))) ?_
  refine DrH.st (i := 7) [9] rfl rfl rfl (by kernel_rfl) (OKG.o rfl (OK1.ext (Has.t rfl) rfl)) ?_
  refine DrH.st (i := 8) [9] rfl rfl rfl (by kernel_rfl) (OKG.o rfl (OK1.ext (Has.t rfl) rfl)) ?_
  refine DrH.als (n1 := 10) (ds := [5]) (zs := [[isB false, SlM isU []]]) rfl (.cons rfl rfl zero44 (fun _ _ => ⟨rfl, nilM _ _, trivial⟩) .nil) (.cons_cons _ (.cons_cons _ .slnil)) (Cs := [_]) rfl ?_
  refine DrN.new [16] 0 (Ss' := [_, _]) (Cs' := [cellM [_, _]]) rfl (by kernel_rfl) (by kernel_rfl) rfl rfl rfl (by kernel_rfl) rfl (Has.t rfl) ty44 rfl rfl rfl rfl ?_
  refine DrN.fin (n := 11) mixed rfl (by kernel_rfl) (by kernel_rfl) (by kernel_rfl) (fun bs hbs => ?_)
  obtain ⟨b3, rfl⟩ := len1 hbs
  refine Ops.memEq (M' := [_, _, _]) rfl ?_
  refine Ops.cv (Cv.wk (.cons (t := 4) (Has.t rfl) (.cons (t := 17) (Has.t rfl) (.cons (t := 5) (Has.op rfl) .nil)))) ?_
  refine st (OK1.as (Has.t rfl)) rfl ?_
  refine nl ?_
  refine At.thn (hK2 _ _ ?_); clear hK2
  refine Tri.seq fun K3 hK3 => ?_
  refine Tri.region ?_
  refine st (OK1.fieldAddr (Has.t rfl) fld44_1 ty42) rfl ?_
  refine st (OK1.load1 (Has.t rfl) (i := 0) rfl ty42 rfl) rfl ?_
  refine st (OK1.eq (OK1.call (nat_Word) (.cons (Has.t rfl) .nil)) ((by simp only [val_words]; rw [of_word hp (by omega)]))) rfl ?_
  refine st (OK1.mv (Has.t rfl)) rfl ?_
  refine st (OK1.ext (Has.t rfl) rfl) rfl ?_
  refine st (OK1.ext (Has.t rfl) rfl) rfl ?_
  refine st (OK1.as (Has.t rfl)) rfl ?_
  refine st (OK1.as (Has.t rfl)) rfl ?_
  refine nl ?_
  refine At.thn (hK3 _ _ ?_); clear hK3
  refine Tri.cv (Cv.wk (.cons (t := 4) (Has.t rfl) (.cons (t := 7) (Has.t rfl) .nil))) ?_
  refine Tri.seq fun K4 hK4 => ?_
  refine Tri.region ?_
  refine st (OK1.mv (Has.t rfl)) rfl ?_
  refine st (OK1.as (Has.t rfl)) rfl ?_
  refine nl ?_
  refine At.thn (hK4 _ _ ?_); clear hK4
  refine Tri.ret ?_
  refine rt1 (.inl rfl) Try.results95 rfl (.tmp (Has.t' rfl ?_) .nil)
  all_goals (rfl)
end Go.Proofs.Ytgkbekcpmbjbdaa
/- Contracts: polynomials' elements. -/
namespace Go.Proofs.Ytgkbekcpmbjbdaa
open Go.En Go.RowKit
set_option linter.unusedVariables false
set_option maxRecDepth 10000
open Go.Nt
open Go.Pz
open Go.Gf
open Go.Po
theorem der_bd {l : List Int} {K k : Nat} (h : Bd l K) (hk : k ≤ 1000000) : Bd (derZ l k) (K + 1) := fun i => by
  unfold derZ
  rw [cf_tab]
  split
  · have h1 := nz_mul (cf l (i + 1)) ((i + 1 : Nat) : Int)
    have h2 := h (i + 1)
    have h3 := nw_small' (n := (((i + 1 : Nat) : Int)).natAbs) (by omega)
    omega
  · rw [Int.natAbs_zero, words_zero]; exact Nat.zero_le _
set_option maxHeartbeats 4000000 in
theorem zpoly_Derive {xs : List (Bool × List Nat)} {K : Nat} (hx : Bd (vals xs) K) (hK : K ≤ 400000000) (hn : xs.length ≤ 400000) : Ctr Try.prog 44 [SlK 2 zc xs] (isP (pnorm (derZ (vals xs) (xs.length - 1)))) := by
  refine Ctr.intro Try.func44 rfl (by kernel_rfl) Try.ntmps44 rfl fun w0 F0 => ?_
  refine Tri.cv (Cv.wk (.cons (t := 0) (Has.t rfl) .nil)) ?_
  refine Tri.fact (Has.lenLt (Has.t (t := 0) rfl)) fun lt0 => ?_
  have hvl := vals_len xs
  refine Tri.seq fun K1 hK1 => ?_
  refine Tri.region ?_
  refine st (OK1.as (Has.cWK (k := 2) (fk := zc))) rfl ?_
  refine nl ?_
  refine At.thn (hK1 _ _ ?_); clear hK1
  refine Tri.seq fun K2 hK2 => ?_
  refine Tri.region ?_
  refine Ops.cv (Cv.grow0K (α := Bool × List Nat) zc) ?_
  refine st (OK1.as (Has.cGr (α := Bool × List Nat))) rfl ?_
  refine nl ?_
  refine At.thn (hK2 _ _ ?_); clear hK2
  refine Tri.seq fun K3 hK3 => ?_
  refine Tri.seq fun K4 hK4 => ?_
  refine Tri.region ?_
  refine st (OK1.as (Has.cI 1 rfl)) rfl ?_
  refine nl ?_
  refine At.thn (hK4 _ _ ?_); clear hK4
  refine Tri.block ?_
  refine Tri.loopF [0, 2] (fun (z : { z : Nat × Gr (Bool × List Nat) // 1 ≤ z.1 ∧ z.1 ≤ max xs.length 1 }) => match z with | ⟨(i, g), hI⟩ => [(4, isI (i : Int)), (3, isGr g ((derZ (vals xs) (i - 1)).map nz).length)]) (fun M => fun (z : { z : Nat × Gr (Bool × List Nat) // 1 ≤ z.1 ∧ z.1 ≤ max xs.length 1 }) => match z with | ⟨(i, g), hI⟩ => [grMK zc g ((derZ (vals xs) (i - 1)).map nz)]) (fun (z : { z : Nat × Gr (Bool × List Nat) // 1 ≤ z.1 ∧ z.1 ≤ max xs.length 1 }) => match z with | ⟨(i, g), hI⟩ => xs.length - i) (⟨(1, Gr.nil), by omega, by omega⟩) (Cv.mem (.cons (t := 4) (Has.t' rfl ?_) (.cons (t := 3) (Has.t' rfl ?_) (.cons (t := 0) (Has.t rfl) (.cons (t := 2) (Has.t rfl) .nil)))) ?_) ?_
  · rfl
  · rfl
  · rfl
  rintro ⟨⟨i, g⟩, hI⟩ K5 hK5
  refine Tri.cv (Cv.wk (.cons (t := 4) (Has.t rfl) (.cons (t := 3) (Has.t rfl) (.cons (t := 0) (Has.t rfl) (.cons (t := 2) (Has.t rfl) .nil))))) ?_
  refine Tri.memEq (M' := [grMK zc g ((derZ (vals xs) (i - 1)).map nz)]) rfl ?_
  simp only [] at hI
  have hdl : ((derZ (vals xs) (i - 1)).map nz).length = i - 1 := by rw [List.length_map, derZ_len]
  obtain ⟨j, rfl⟩ : ∃ j, i = j + 1 := ⟨i - 1, by omega⟩
  have hxr := hx.raw (j + 1)
  refine Tri.seq fun K6 hK6 => ?_
  refine Tri.seq fun K7 hK7 => ?_
  refine Tri.region ?_
  refine st (OK1.mv (Has.t rfl)) rfl ?_
  refine st (OK1.mv (Has.t rfl)) rfl ?_
  refine st (OK1.len sl34 (Has.t rfl)) rfl ?_
  refine st (OK1.ltI (Has.t rfl) (Has.t rfl)) rfl ?_
  refine nl ?_
  refine At.thn (hK7 _ _ ?_); clear hK7
  refine Tri.cond (Has.t rfl) (fun hc1 => ?_) (fun hc1 => ?_)
  · have hc1 := BP.t hc1
    refine Tri.skip ?_
    refine At.thn (hK6 _ _ ?_); clear hK6
    refine Tri.seq fun K8 hK8 => ?_
    refine Tri.block ?_
    refine Tri.dr ?_
    refine DrG.st (i := 0) [] rfl rfl rfl (by kernel_rfl) (OKG.o rfl (OK1.mv (Has.t rfl))) ?_
    refine DrG.st (i := 1) [] rfl rfl rfl (by kernel_rfl) (OKG.o rfl (OK1.mv (Has.t rfl))) ?_
    refine DrG.st (i := 2) [] rfl rfl rfl (by kernel_rfl) (OKG.o rfl (OK1.mv (Has.t rfl))) ?_
    refine DrG.st (i := 3) [12, 13] rfl rfl rfl (by kernel_rfl) (OKG.o rfl (OK1.ixK sl34 ty44 (Has.t rfl) (Has.t rfl) zc_len ⟨by omega, by omega⟩ (getD_some (d := (false, [])) (by first | omega | (simp only [Int.toNat_natCast, List.length_set]; omega))))) ?_
    refine DrG.st (i := 4) [14] rfl rfl rfl (by kernel_rfl) (OKG.o rfl (OK1.loadP (Has.t rfl) ty44 rfl (Ss' := [_, _]) rfl)) ?_
    refine DrG.st (i := 5) [] rfl rfl rfl (by kernel_rfl) (OKG.o rfl (OK1.mv (Has.t rfl))) ?_
    refine DrG.st (i := 6) [16] rfl rfl rfl (by kernel_rfl) (OKG.o rfl (OK1.call (zint_Of) (.cons (Has.t rfl) .nil))) ?_
    refine DrG.st (i := 7) [15, 17] rfl rfl rfl (by kernel_rfl) (OKG.o rfl (OK1.eq (OK1.call (zint_Mul (by simp only [Int.toNat_natCast]; omega) (by rw [val_words]; have := nw_small' (n := (((j + 1 : Nat) : Int)).natAbs) (by omega); omega)) (.cons (Has.t rfl) (.cons (Has.t rfl) .nil))) ((show isZ _ = Flat (zc (nz (cf (vals xs) (j + 1) * ((j + 1 : Nat) : Int)))) from isZ_eq (by rw [cf_vals, zv_nf]; rfl))))) ?_
    refine DrG.st (i := 8) [18] rfl rfl rfl (by kernel_rfl) (OKG.o rfl (OK1.buildS [isB false, SlM isU []] sl34 ty44 zero44 (fun _ _ => ⟨rfl, nilM _ _, trivial⟩) rfl rfl (.cons (Has.t rfl) rfl rfl rfl .nil) rfl (S := SlK 2 zc [nz (cf (vals xs) (j + 1) * ((j + 1 : Nat) : Int))]) rfl)) ?_
    refine DrG.fin (n := 9) mixed (by kernel_rfl) (by kernel_rfl) (by kernel_rfl) ?_
    refine Ops.cv (Cv.wk (.cons (t := 0) (Has.t rfl) (.cons (t := 2) (Has.t rfl) (.cons (t := 4) (Has.t rfl) (.cons (t := 3) (Has.t rfl) (.cons (t := 5) (Has.t rfl) (.cons (t := 6) (Has.t rfl) (.cons (t := 7) (Has.t rfl) (.cons (t := 8) (Has.t rfl) (.cons (t := 11) (Has.t rfl) (.cons (t := 12) (Has.t rfl) (.cons (t := 13) (Has.t rfl) (.cons (t := 14) (Has.t rfl) (.cons (t := 15) (Has.t rfl) (.cons (t := 16) (Has.t rfl) (.cons (t := 17) (Has.t rfl) (.cons (t := 18) (Has.t rfl) (.cons (t := 19) (Has.t rfl) .nil)))))))))))))))))) ?_
    refine Ops.appendGK (fk := zc) (u := (false, [])) zc_len (by decide) (fun _ => inferInstance) sl34 ty44 zero44 (fun _ _ => ⟨rfl, nilM _ _, trivial⟩) by44 (Has.t rfl) (i := 0) rfl (Has.t rfl) (by rw [List.length_map, derZ_len]; show j + 1 - 1 + 1 ≤ _; omega) (by simp) rfl fun gr1 => ?_
    refine Ops.memEq (M' := [grMK _ _ _]) rfl ?_
    refine st (OK1.as (Has.t rfl)) rfl ?_
    refine nl ?_
    refine At.bln ?_
    refine At.thn (hK8 _ _ ?_); clear hK8
    refine Tri.region ?_
    refine st (OK1.mv (Has.t rfl)) rfl ?_
    refine st (OK1.addI (Has.t rfl) (Has.cI 1 rfl) (by first | omega | assumption) (by first | omega | assumption)) rfl ?_
    refine st (OK1.as (Has.t rfl)) rfl ?_
    refine nl ?_
    refine At.thn ?_
    refine hK5 (⟨(j + 1 + 1, gr1), by show 1 ≤ j + 1 + 1 ∧ j + 1 + 1 ≤ _; omega⟩) _ _ ?_ (Cv.mem (.cons (t := 4) (Has.t' rfl ?_) (.cons (t := 3) (Has.t' rfl ?_) (.cons (t := 0) (Has.t rfl) (.cons (t := 2) (Has.t rfl) .nil)))) ?_)
    · show xs.length - (j + 1 + 1) < xs.length - (j + 1); omega
    · exact isI_eq (by omega)
    · exact isGr_eq (by show _ = ((derZ (vals xs) (j + 1)).map nz).length; rw [← derZ_succ, List.map_append, List.length_append]; rfl)
    · exact grMK_eq (by show (derZ (vals xs) j).map nz ++ [_] = (derZ (vals xs) (j + 1)).map nz; rw [← derZ_succ, List.map_append]; rfl)
  · have hc1 := BP.f hc1
    refine Tri.exit ?_
    refine At.the ?_
    refine At.the ?_
    refine At.blh ?_
    refine At.thn (hK3 _ _ ?_); clear hK3
    refine Tri.cv (Cv.wk (.cons (t := 2) (Has.t rfl) (.cons (t := 3) (Has.t rfl) .nil))) ?_
    refine Tri.seq fun K9 hK9 => ?_
    refine Tri.cv (Cv.freezeGK (t := 3) (i := 0) (ys := (derZ (vals xs) j).map nz) zc_len rfl rfl rfl) ?_
    refine Tri.memEq (M' := []) rfl ?_
    refine Tri.cv (Cv.wk (.cons (t := 2) (Has.t rfl) (.cons (t := 3) (Has.t rfl) .nil))) ?_
    refine Tri.region ?_
    refine st (OK1.mv (Has.t rfl)) rfl ?_
    refine st (OK1.call (zpoly_Norm (K := K + 1) (by rw [vals_nz]; exact der_bd hx (by omega)) (by omega) (by rw [List.length_map, derZ_len]; omega)) (.cons (Has.t rfl) .nil)) rfl ?_
    refine st (OK1.as (Has.t rfl)) rfl ?_
    refine nl ?_
    refine At.thn (hK9 _ _ ?_); clear hK9
    refine Tri.ret ?_
    refine rt1 (.inl rfl) Try.results44 rfl (.tmp (Has.t' rfl ?_) .nil)
    all_goals (exact isP_eq (by rw [vals_nz, show xs.length - 1 = j by omega]))
set_option maxHeartbeats 4000000 in
theorem zpoly_Reduce {q : Nat} {xs : List (Bool × List Nat)} {K : Nat} (hq : q < 4294967296) (hx : Bd (vals xs) K) (hK : K ≤ 4000000000) (hn : xs.length ≤ 400000) : Ctr Try.prog 41 [SlK 2 zc xs, Flat [isU q]] (isWords (nrm (fp q) (vals xs))) := by
  refine Ctr.intro Try.func41 rfl (by kernel_rfl) Try.ntmps41 rfl fun w0 F0 => ?_
  refine Tri.cv (Cv.wk (.cons (t := 0) (Has.t rfl) (.cons (t := 1) (Has.t rfl) .nil))) ?_
  refine Tri.fact (Has.lenLt (Has.t (t := 0) rfl)) fun lt0 => ?_
  have hvl := vals_len xs
  have hp := fp_pos q
  refine Tri.seq fun K1 hK1 => ?_
  refine Tri.region ?_
  refine Ops.box (Has.t rfl) rfl fun b1 => ?_
  refine st (OK1.as (Has.cW (f := isU))) rfl ?_
  refine nl ?_
  refine At.thn (hK1 _ _ ?_); clear hK1
  refine Tri.seq fun K2 hK2 => ?_
  refine Tri.region ?_
  refine Ops.cv (Cv.grow0 (α := Nat) isU) ?_
  refine st (OK1.as (Has.cGr (α := Nat))) rfl ?_
  refine nl ?_
  refine At.thn (hK2 _ _ ?_); clear hK2
  refine Tri.seq fun K3 hK3 => ?_
  refine Tri.seq fun K4 hK4 => ?_
  refine Tri.region ?_
  refine st (OK1.mv (Has.t rfl)) rfl ?_
  refine st (OK1.len sl34 (Has.t rfl)) rfl ?_
  refine st (OK1.mv (Has.cI 0 rfl)) rfl ?_
  refine nl ?_
  refine At.thn (hK4 _ _ ?_); clear hK4
  refine Tri.block ?_
  refine Tri.loopF [3, 4, 8, 9] (fun (z : { z : Nat × Gr Nat // z.1 ≤ xs.length }) => match z with | ⟨(i, g), hI⟩ => [(10, isI (i : Int)), (5, isGr g (redU (fp q) (vals xs) i).length)]) (fun M => fun (z : { z : Nat × Gr Nat // z.1 ≤ xs.length }) => match z with | ⟨(i, g), hI⟩ => [grM isU g (redU (fp q) (vals xs) i), (some b1, cellM [isU q])]) (fun (z : { z : Nat × Gr Nat // z.1 ≤ xs.length }) => match z with | ⟨(i, g), hI⟩ => xs.length - i) (⟨(0, Gr.nil), Nat.zero_le _⟩) (Cv.mem (.cons (t := 10) (Has.t' rfl ?_) (.cons (t := 5) (Has.t' rfl ?_) (.cons (t := 3) (Has.t rfl) (.cons (t := 4) (Has.t rfl) (.cons (t := 8) (Has.t rfl) (.cons (t := 9) (Has.t rfl) .nil)))))) ?_) ?_
  · rfl
  · rfl
  · rfl
  rintro ⟨⟨i, g⟩, hI⟩ K5 hK5
  refine Tri.cv (Cv.wk (.cons (t := 10) (Has.t rfl) (.cons (t := 5) (Has.t rfl) (.cons (t := 3) (Has.t rfl) (.cons (t := 4) (Has.t rfl) (.cons (t := 8) (Has.t rfl) (.cons (t := 9) (Has.t rfl) .nil))))))) ?_
  refine Tri.memEq (M' := [grM isU g (redU (fp q) (vals xs) i), (some b1, cellM [isU q])]) rfl ?_
  simp only [] at hI
  have hdl := redU_len (p := fp q) (l := vals xs) (k := i) (by omega)
  have hxr := hx.raw i
  refine Tri.seq fun K6 hK6 => ?_
  refine Tri.region ?_
  refine st (OK1.ltI (Has.t rfl) (Has.t rfl)) rfl ?_
  refine nl ?_
  refine At.thn (hK6 _ _ ?_); clear hK6
  refine Tri.seq fun K7 hK7 => ?_
  refine Tri.cond (Has.t rfl) (fun hc1 => ?_) (fun hc1 => ?_)
  · have hc1 := BP.t hc1
    refine Tri.skip ?_
    refine At.thn (hK7 _ _ ?_); clear hK7
    refine Tri.seq fun K8 hK8 => ?_
    refine Tri.block ?_
    refine Tri.seq fun K9 hK9 => ?_
    refine Tri.region ?_
    refine st (OK1.ixK sl34 ty44 (Has.t rfl) (Has.t rfl) zc_len ⟨by omega, by omega⟩ (getD_some (d := (false, [])) (by first | omega | (simp only [Int.toNat_natCast, List.length_set]; omega)))) rfl ?_
    refine st (OK1.loadP (Has.t rfl) ty44 rfl (Ss' := [_, _]) rfl) rfl ?_
    refine Ops.alloc [isB false, SlM isU []] zero44 (fun _ _ => ⟨rfl, nilM _ _, trivial⟩) rfl fun b2 => ?_
    refine Ops.store (Has.t rfl) (Has.t rfl) (i := 0) rfl ty44 rfl rfl (Ss' := [_, _]) rfl (M' := [(some _, cellM [_, _]), _, _]) rfl ?_
    refine nl ?_
    refine At.thn (hK9 _ _ ?_); clear hK9
    refine Tri.region ?_
    refine st (OK1.mv (Has.t rfl)) rfl ?_
    refine st (OK1.load (Has.t rfl) (i := 2) rfl ty66 rfl (Ss' := [_]) rfl) rfl ?_
    refine st (OK1.load (Has.t rfl) (i := 0) rfl ty44 rfl (Ss' := [_, _]) rfl) rfl ?_
    refine st (OK1.eq (OK1.call (gfp_Of hq (by simp only [Int.toNat_natCast]; omega)) (.cons (Has.t rfl) (.cons (Has.t rfl) .nil))) ((show isU _ = isU ((cf (vals xs) i % ((fp q : Nat) : Int)).toNat) from isU_eq (by rw [cf_vals]; rfl)))) rfl ?_
    refine st (OK1.buildS [isU 0] sl68 ty59 zero59 (fun _ _ => ⟨⟨rfl, by decide⟩, trivial⟩) rfl rfl (.cons (Has.t rfl) rfl rfl rfl .nil) rfl (S := SlM isU [(cf (vals xs) i % ((fp q : Nat) : Int)).toNat]) rfl) rfl ?_
    refine Ops.appendG (f := isU) (u := 0) sl68 ty59 zero59 (fun _ _ => ⟨⟨rfl, by decide⟩, trivial⟩) (fun _ => inferInstance) by59 (Has.t rfl) (i := 1) rfl (Has.t rfl) (by rw [redU_len (by omega)]; show i + 1 ≤ _; omega) (by simp) rfl fun gr1 => ?_
    refine Ops.memEq (M' := [_, grM _ _ _, _]) rfl ?_
    refine st (OK1.as (Has.t rfl)) rfl ?_
    refine nl ?_
    refine At.bln ?_
    refine At.thn (hK8 _ _ ?_); clear hK8
    refine Tri.region ?_
    refine st (OK1.addI (Has.t rfl) (Has.cI 1 rfl) (by first | omega | assumption) (by first | omega | assumption)) rfl ?_
    refine st (OK1.mv (Has.t rfl)) rfl ?_
    refine nl ?_
    refine At.thn ?_
    refine hK5 (⟨(i + 1, gr1), by show i + 1 ≤ _; omega⟩) _ _ ?_ (Cv.trans (Cv.drop ((.cons _ (.cons_cons _ (.cons_cons _ .slnil))))) (Cv.mem (.cons (t := 10) (Has.t' rfl ?_) (.cons (t := 5) (Has.t' rfl ?_) (.cons (t := 3) (Has.t rfl) (.cons (t := 4) (Has.t rfl) (.cons (t := 8) (Has.t rfl) (.cons (t := 9) (Has.t rfl) .nil)))))) ?_))
    · show xs.length - (i + 1) < xs.length - i; omega
    · exact isI_eq (by omega)
    · exact isGr_eq (by rw [← redU_succ _ (by omega), List.length_append])
    · exact grM_eq (redU_succ _ (by omega))
  · have hc1 := BP.f hc1
    refine Tri.exit ?_
    refine At.the ?_
    refine At.the ?_
    refine At.blh ?_
    refine At.thn (hK3 _ _ ?_); clear hK3
    refine Tri.seq fun K10 hK10 => ?_
    refine Tri.cv (Cv.freezeG (t := 5) (i := 0) (ys := redU (fp q) (vals xs) i) rfl rfl rfl) ?_
    refine Tri.memEq (M' := [_]) rfl ?_
    refine Tri.cv (Cv.wk (.cons (t := 3) (Has.t rfl) (.cons (t := 4) (Has.t rfl) (.cons (t := 8) (Has.t rfl) (.cons (t := 9) (Has.t rfl) (.cons (t := 10) (Has.t rfl) (.cons (t := 5) (Has.t rfl) (.cons (t := 11) (Has.t rfl) .nil)))))))) ?_
    refine Tri.region ?_
    refine st (OK1.load (Has.t rfl) (i := 0) rfl ty66 rfl (Ss' := [_]) rfl) rfl ?_
    refine st (OK1.mv (Has.t rfl)) rfl ?_
    refine st (OK1.call (fpoly_Norm (by rw [redU_len (by omega)]; omega)) (.cons (Has.t rfl) (.cons (Has.t rfl) .nil))) rfl ?_
    refine st (OK1.as (Has.t rfl)) rfl ?_
    refine nl ?_
    refine At.thn (hK10 _ _ ?_); clear hK10
    refine Tri.cv (Cv.wk (.cons (t := 4) (Has.t rfl) .nil)) ?_
    refine Tri.ret ?_
    refine rt1 (.inl rfl) Try.results41 rfl (.tmp (Has.t' rfl ?_) .nil)
    all_goals (exact SlM_eq (red_nrm hp (by omega)))
end Go.Proofs.Ytgkbekcpmbjbdaa
/- A law of layer 10: elements of a field, as a contract. -/
namespace Go.Proofs.Ytgkbekcpmbjbdaa
open Go.En Go.RowKit
set_option linter.unusedVariables false
set_option maxRecDepth 10000
open Go.Nt
open Go.Pz
open Go.Gf
open Go.Po
set_option maxHeartbeats 4000000 in
theorem c_ZpolyReduces (n : Nat) (xs ys : List (Bool × List Nat)) : Ctr Try.prog 8 [isK .u8 (n : Int), SlK 2 zc xs, SlK 2 zc ys] (isB true) := by
  refine Ctr.intro Try.func8 rfl (by kernel_rfl) Try.ntmps8 rfl fun w0 F0 => ?_
  refine Tri.cv (Cv.wk (.cons (t := 0) (Has.t rfl) (.cons (t := 1) (Has.t rfl) (.cons (t := 2) (Has.t rfl) .nil)))) ?_
  refine Tri.fact (Has.okP (Has.t (t := 1) rfl)) fun okp0 => ?_
  refine Tri.fact (Has.okP (Has.t (t := 2) rfl)) fun okp1 => ?_
  have hpl := ptab_le (k := n % 12)
  have hp2 := ptab_two (n % 12)
  have hfp := ptab_fp (n % 12)
  obtain ⟨p, hpd⟩ : ∃ p, p = ptab (n % 12) := ⟨_, rfl⟩
  rw [← hpd] at hpl hp2 hfp
  have hpq : p < 4294967296 := by omega
  have hp0 : 0 < p := by omega
  have hvx := vals_len xs
  have hvy := vals_len ys
  have hnx := nrm_len p (vals xs)
  have hny := nrm_len p (vals ys)
  refine Tri.seq fun K1 hK1 => ?_
  refine Tri.region ?_
  refine st (OK1.as (Has.cB false)) rfl ?_
  refine nl ?_
  refine At.thn (hK1 _ _ ?_); clear hK1
  refine Tri.seq fun K2 hK2 => ?_
  refine Tri.seq fun K3 hK3 => ?_
  refine Tri.region ?_
  refine st (OK1.call (law10_awake) .nil) rfl ?_
  refine st (OK1.not (Has.t rfl)) rfl ?_
  refine st (OK1.mv (Has.t rfl)) rfl ?_
  refine stF rfl rfl (fun hg => have hg' := BP.t hg; OK1.mv (Has.t rfl)) rfl ?_
  refine stF rfl rfl (fun hg => have hg' := BP.t hg; OK1.mv (Has.t rfl)) rfl ?_
  refine stF rfl rfl (fun hg => have hg' := BP.t hg; OK1.call (law10_few) (.cons (Has.g rfl hg) (.cons (Has.g rfl hg) (.cons (Has.cI 8 rfl) (.cons (Has.cI 2 rfl) .nil))))) rfl ?_
  refine stF rfl rfl (fun hg => have hg' := BP.t hg; OK1.not (Has.g rfl hg)) rfl ?_
  refine st (OK1.pickOr (Has.t rfl) (fun h => Has.g rfl (ng h))) rfl ?_
  refine nl ?_
  refine At.thn (hK3 _ _ ?_); clear hK3
  refine Tri.cv (Cv.wk (.cons (t := 0) (Has.t rfl) (.cons (t := 1) (Has.t rfl) (.cons (t := 2) (Has.t rfl) (.cons (t := 6) (Has.t rfl) (.cons (t := 20) (Has.t rfl) .nil)))))) ?_
  refine Tri.cond (Has.t rfl) (fun hc1 => ?_) (fun hc1 => ?_)
  · have hc1 := BP.t hc1
    skip
    refine Tri.seq fun K4 hK4 => ?_
    refine Tri.region ?_
    refine st (OK1.call (law10_awake) .nil) rfl ?_
    refine st (OK1.as (Has.t rfl)) rfl ?_
    refine nl ?_
    refine At.thn (hK4 _ _ ?_); clear hK4
    refine Tri.ret ?_
    refine At.thr ?_
    refine rt1 (.inl rfl) Try.results8 rfl (.tmp (Has.t' rfl ?_) .nil)
    all_goals (rfl)
  · have hc1 := BP.f hc1
    have HF : fewB xs 8 2 = true ∧ fewB ys 8 2 = true := (by simpa using hc1)
    obtain ⟨hl0, hb0⟩ := fewB_bd (N := 8) (K := 2) okp0 (HF.1) rfl rfl (by decide)
    obtain ⟨hl1, hb1⟩ := fewB_bd (N := 8) (K := 2) okp1 (HF.2) rfl rfl (by decide)
    refine Tri.skip ?_
    refine At.thn (hK2 _ _ ?_); clear hK2
    refine Tri.seq fun K5 hK5 => ?_
    refine Tri.region ?_
    refine st (OK1.mv (Has.t rfl)) rfl ?_
    refine st (OK1.eq (OK1.call law09_OfR (.cons (Has.t rfl) .nil)) ((show Flat [isU _] = Flat [isU p] from by rw [hpd]))) rfl ?_
    refine Ops.alloc [isU 0] zero66 (fun _ _ => ⟨⟨rfl, by decide⟩, trivial⟩) rfl fun b1 => ?_
    refine Ops.store (Has.t rfl) (Has.t rfl) (i := 0) rfl ty66 rfl rfl (Ss' := [_]) rfl (M' := [(some _, cellM [_])]) rfl ?_
    refine nl ?_
    refine At.thn (hK5 _ _ ?_); clear hK5
    refine Tri.seq fun K6 hK6 => ?_
    refine Tri.dr ?_
    refine DrG.st (i := 0) [] rfl rfl rfl (by kernel_rfl) (OKG.o rfl (OK1.mv (Has.t rfl))) ?_
    refine DrG.st (i := 1) [] rfl rfl rfl (by kernel_rfl) (OKG.o rfl (OK1.load (Has.t rfl) (i := 0) rfl ty66 rfl (Ss' := [_]) rfl)) ?_
    refine DrG.st (i := 2) [24, 25] rfl rfl rfl (by kernel_rfl) (OKG.o rfl (OK1.eq (OK1.call (zpoly_Reduce (K := 2) hpq hb0 (by decide) (by omega)) (.cons (Has.t rfl) (.cons (Has.t rfl) .nil))) ((show isWords _ = isWords (nrm p (vals xs)) from SlM_eq (by rw [hfp]))))) ?_
    refine DrG.st (i := 3) [] rfl rfl rfl (by kernel_rfl) (OKG.o rfl (OK1.mv (Has.t rfl))) ?_
    refine DrG.st (i := 4) [] rfl rfl rfl (by kernel_rfl) (OKG.o rfl (OK1.load (Has.t rfl) (i := 0) rfl ty66 rfl (Ss' := [_]) rfl)) ?_
    refine DrG.fin (n := 5) mixed (by kernel_rfl) (by kernel_rfl) (by kernel_rfl) ?_
    refine Ops.cv (Cv.wk (.cons (t := 1) (Has.t rfl) (.cons (t := 2) (Has.t rfl) (.cons (t := 6) (Has.t rfl) (.cons (t := 7) (Has.t rfl) (.cons (t := 26) (Has.t rfl) (.cons (t := 27) (Has.t rfl) (.cons (t := 28) (Has.t rfl) .nil)))))))) ?_
    refine st (OK1.eq (OK1.call (zpoly_Reduce (K := 2) hpq hb1 (by decide) (by omega)) (.cons (Has.t rfl) (.cons (Has.t rfl) .nil))) ((show isWords _ = isWords (nrm p (vals ys)) from SlM_eq (by rw [hfp])))) rfl ?_
    refine st (OK1.as (Has.t rfl)) rfl ?_
    refine st (OK1.as (Has.t rfl)) rfl ?_
    refine nl ?_
    refine At.thn (hK6 _ _ ?_); clear hK6
    refine Tri.seq fun K7 hK7 => ?_
    refine Tri.dr ?_
    refine DrG.st (i := 0) [] rfl rfl rfl (by kernel_rfl) (OKG.o rfl (OK1.mv (Has.t rfl))) ?_
    refine DrG.st (i := 1) [] rfl rfl rfl (by kernel_rfl) (OKG.o rfl (OK1.mv (Has.t rfl))) ?_
    refine DrG.st (i := 2) [30, 31] rfl rfl rfl (by kernel_rfl) (OKG.o rfl (OK1.call (zpoly_Add (K := 2) hb0 hb1 (by decide) (by omega) (by omega)) (.cons (Has.t rfl) (.cons (Has.t rfl) .nil)))) ?_
    refine DrG.st (i := 3) [] rfl rfl rfl (by kernel_rfl) (OKG.o rfl (OK1.load (Has.t rfl) (i := 0) rfl ty66 rfl (Ss' := [_]) rfl)) ?_
    refine DrG.fin (n := 4) mixed (by kernel_rfl) (by kernel_rfl) (by kernel_rfl) ?_
    refine Ops.cv (Cv.wk (.cons (t := 1) (Has.t rfl) (.cons (t := 2) (Has.t rfl) (.cons (t := 6) (Has.t rfl) (.cons (t := 7) (Has.t rfl) (.cons (t := 8) (Has.t rfl) (.cons (t := 9) (Has.t rfl) (.cons (t := 32) (Has.t rfl) (.cons (t := 33) (Has.t rfl) .nil))))))))) ?_
    refine st (OK1.eq (OK1.call (zpoly_Reduce (K := 3) hpq (by rw [vals_nz]; exact Bd.add hb0 hb1) (by decide) (by rw [List.length_map]; have := both_len (fun x y => x + y) (vals xs) (vals ys); exact Nat.le_trans this (by omega))) (.cons (Has.t rfl) (.cons (Has.t rfl) .nil))) ((show isWords _ = isWords (nrm p (padd (vals xs) (vals ys))) from SlM_eq (by rw [hfp, vals_nz])))) rfl ?_
    refine st (OK1.as (Has.t rfl)) rfl ?_
    refine nl ?_
    refine At.thn (hK7 _ _ ?_); clear hK7
    refine Tri.seq fun K8 hK8 => ?_
    refine Tri.dr ?_
    refine DrG.st (i := 0) [] rfl rfl rfl (by kernel_rfl) (OKG.o rfl (OK1.mv (Has.t rfl))) ?_
    refine DrG.st (i := 1) [] rfl rfl rfl (by kernel_rfl) (OKG.o rfl (OK1.mv (Has.t rfl))) ?_
    refine DrG.st (i := 2) [35, 36] rfl rfl rfl (by kernel_rfl) (OKG.o rfl (OK1.call (zpoly_Mul (K := 2) (L := 2) hb0 hb1 (by decide) (by decide) (by omega) (by omega)) (.cons (Has.t rfl) (.cons (Has.t rfl) .nil)))) ?_
    refine DrG.st (i := 3) [] rfl rfl rfl (by kernel_rfl) (OKG.o rfl (OK1.load (Has.t rfl) (i := 0) rfl ty66 rfl (Ss' := [_]) rfl)) ?_
    refine DrG.fin (n := 4) mixed (by kernel_rfl) (by kernel_rfl) (by kernel_rfl) ?_
    refine Ops.cv (Cv.wk (.cons (t := 1) (Has.t rfl) (.cons (t := 6) (Has.t rfl) (.cons (t := 7) (Has.t rfl) (.cons (t := 8) (Has.t rfl) (.cons (t := 9) (Has.t rfl) (.cons (t := 10) (Has.t rfl) (.cons (t := 37) (Has.t rfl) (.cons (t := 38) (Has.t rfl) .nil))))))))) ?_
    refine st (OK1.eq (OK1.call (zpoly_Reduce (K := 2 + 2 + (vals xs).length) hpq (by rw [vals_nz]; exact Bd.mul hb0 hb1) (by omega) (by rw [List.length_map]; have := mul_len (vals xs) (vals ys); omega)) (.cons (Has.t rfl) (.cons (Has.t rfl) .nil))) ((show isWords _ = isWords (nrm p (pmul (vals xs) (vals ys))) from SlM_eq (by rw [hfp, vals_nz])))) rfl ?_
    refine st (OK1.as (Has.t rfl)) rfl ?_
    refine nl ?_
    refine At.thn (hK8 _ _ ?_); clear hK8
    refine Tri.seq fun K9 hK9 => ?_
    refine Tri.dr ?_
    refine DrG.st (i := 0) [] rfl rfl rfl (by kernel_rfl) (OKG.o rfl (OK1.mv (Has.t rfl))) ?_
    refine DrG.st (i := 1) [40] rfl rfl rfl (by kernel_rfl) (OKG.o rfl (OK1.call (zpoly_Derive (K := 2) hb0 (by decide) (by omega)) (.cons (Has.t rfl) .nil))) ?_
    refine DrG.st (i := 2) [] rfl rfl rfl (by kernel_rfl) (OKG.o rfl (OK1.load (Has.t rfl) (i := 0) rfl ty66 rfl (Ss' := [_]) rfl)) ?_
    refine DrG.fin (n := 3) mixed (by kernel_rfl) (by kernel_rfl) (by kernel_rfl) ?_
    refine Ops.cv (Cv.wk (.cons (t := 6) (Has.t rfl) (.cons (t := 7) (Has.t rfl) (.cons (t := 8) (Has.t rfl) (.cons (t := 9) (Has.t rfl) (.cons (t := 10) (Has.t rfl) (.cons (t := 11) (Has.t rfl) (.cons (t := 41) (Has.t rfl) (.cons (t := 42) (Has.t rfl) .nil))))))))) ?_
    refine st (OK1.eq (OK1.call (zpoly_Reduce (K := 3) hpq (by rw [vals_nz]; exact Bd.norm (der_bd hb0 (by omega))) (by decide) (by rw [List.length_map]; have := norm_len (derZ (vals xs) (xs.length - 1)); rw [derZ_len] at this; omega)) (.cons (Has.t rfl) (.cons (Has.t rfl) .nil))) ((show isWords _ = isWords (nrm p (pnorm (derZ (vals xs) (xs.length - 1)))) from SlM_eq (by rw [hfp, vals_nz])))) rfl ?_
    refine st (OK1.as (Has.t rfl)) rfl ?_
    refine nl ?_
    refine At.thn (hK9 _ _ ?_); clear hK9
    refine Tri.seq fun K10 hK10 => ?_
    refine Tri.region ?_
    refine st (OK1.mv (Has.t rfl)) rfl ?_
    refine st (OK1.load (Has.t rfl) (i := 0) rfl ty66 rfl (Ss' := [_]) rfl) rfl ?_
    refine st (OK1.mv (Has.t rfl)) rfl ?_
    refine st (OK1.mv (Has.t rfl)) rfl ?_
    refine st (OK1.call (fpoly_Add hpq (by omega) (by omega)) (.cons (Has.t rfl) (.cons (Has.t rfl) (.cons (Has.t rfl) .nil)))) rfl ?_
    refine st (OK1.eq (OK1.call (ref09_Same) (.cons (Has.t rfl) (.cons (Has.t rfl) .nil))) ((show isB _ = isB true from isB_eq (decide_eq_true (by rw [hfp]; exact red_add hp0 _ _))))) rfl ?_
    refine st (OK1.mv (Has.t rfl)) rfl ?_
    refine stT rfl rfl (fun hg => have hg' := BP.t hg; OK1.mv (Has.t rfl)) rfl ?_
    refine stT rfl rfl (fun hg => have hg' := BP.t hg; OK1.load (Has.t rfl) (i := 0) rfl ty66 rfl (Ss' := [_]) rfl) rfl ?_
    refine stT rfl rfl (fun hg => have hg' := BP.t hg; OK1.mv (Has.t rfl)) rfl ?_
    refine stT rfl rfl (fun hg => have hg' := BP.t hg; OK1.mv (Has.t rfl)) rfl ?_
    refine stT rfl rfl (fun hg => have hg' := BP.t hg; OK1.call (fpoly_Mul hpq (by omega) (by omega)) (.cons (Has.g rfl hg) (.cons (Has.g rfl hg) (.cons (Has.g rfl hg) .nil)))) rfl ?_
    refine stT rfl rfl (fun hg => have hg' := BP.t hg; OK1.eq (OK1.call (ref09_Same) (.cons (Has.g rfl hg) (.cons (Has.g rfl hg) .nil))) ((show isB _ = isB true from isB_eq (decide_eq_true (by rw [hfp]; exact red_mul hp0 _ _))))) rfl ?_
    refine st (OK1.pickAnd (Has.t rfl) (fun h => Has.g rfl h)) rfl ?_
    refine st (OK1.mv (Has.t rfl)) rfl ?_
    refine stT rfl rfl (fun hg => have hg' := BP.t hg; OK1.mv (Has.t rfl)) rfl ?_
    refine stT rfl rfl (fun hg => have hg' := BP.t hg; OK1.load (Has.t rfl) (i := 0) rfl ty66 rfl (Ss' := [_]) rfl) rfl ?_
    refine stT rfl rfl (fun hg => have hg' := BP.t hg; OK1.mv (Has.t rfl)) rfl ?_
    refine stT rfl rfl (fun hg => have hg' := BP.t hg; OK1.call (fpoly_Derive hpq (by omega)) (.cons (Has.g rfl hg) (.cons (Has.g rfl hg) .nil))) rfl ?_
    refine stT rfl rfl (fun hg => have hg' := BP.t hg; OK1.eq (OK1.call (ref09_Same) (.cons (Has.g rfl hg) (.cons (Has.g rfl hg) .nil))) ((show isB _ = isB true from isB_eq (decide_eq_true (by rw [hfp]; exact red_der hp0 _ (by omega) (by omega)))))) rfl ?_
    refine st (OK1.pickAnd (Has.t rfl) (fun h => Has.g rfl h)) rfl ?_
    refine st (OK1.as (Has.t rfl)) rfl ?_
    refine nl ?_
    refine At.thn (hK10 _ _ ?_); clear hK10
    refine Tri.cv (Cv.wk (.cons (t := 6) (Has.t rfl) .nil)) ?_
    refine Tri.ret ?_
    refine rt1 (.inl rfl) Try.results8 rfl (.tmp (Has.t' rfl ?_) .nil)
    all_goals (rfl)
end Go.Proofs.Ytgkbekcpmbjbdaa
