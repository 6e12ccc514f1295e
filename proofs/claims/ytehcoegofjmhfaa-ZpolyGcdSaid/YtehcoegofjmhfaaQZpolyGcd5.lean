/- The law ZpolyGcd, as it is stated, of the given program, for every input; no condition. -/
import Derived.Test.YtehcoegofjmhfaaQZpolyGcd4
import Derived.Deep.SlicePairs
import Derived.Test.YtehcoegofjmhfaaRows
/- Contracts: the document's answers on polynomials. -/
namespace Go.Proofs.Ytehcoegofjmhfaa
open Go.En Go.RowKit
set_option linter.unusedVariables false
set_option maxRecDepth 10000
open Go.Nt
open Go.Pz
set_option maxHeartbeats 4000000 in
theorem ref10_at {xs : List (Bool × List Nat)} {i : Nat} : Ctr Try.prog 50 [SlK 2 zc xs, isI (i : Int)] (Flat (zc (xs.getD i (false, [])))) := by
  refine Ctr.intro Try.func50 rfl (by kernel_rfl) Try.ntmps50 rfl fun w0 F0 => ?_
  refine Tri.cv (Cv.wk (.cons (t := 0) (Has.t rfl) (.cons (t := 1) (Has.t rfl) .nil))) ?_
  refine Tri.fact (Has.lenLt (Has.t (t := 0) rfl)) fun lt0 => ?_
  refine Tri.fact (Has.rngI (Has.t (t := 1) rfl)) fun lt1 => ?_
  refine Tri.seq fun K1 hK1 => ?_
  refine Tri.region ?_
  refine Ops.alloc [isB false, SlM isU []] zero32 (fun _ _ => ⟨rfl, nilM _ _, trivial⟩) rfl fun b1 => ?_
  refine nl ?_
  refine At.thn (hK1 _ _ ?_); clear hK1
  refine Tri.seq fun K2 hK2 => ?_
  refine Tri.seq fun K3 hK3 => ?_
  refine Tri.region ?_
  refine st (OK1.mv (Has.t rfl)) rfl ?_
  refine st (OK1.geI (Has.t rfl) (Has.cI 0 rfl)) rfl ?_
  refine st (OK1.mv (Has.t rfl)) rfl ?_
  refine stT rfl rfl (fun hg => have hg' := BP.t hg; OK1.mv (Has.t rfl)) rfl ?_
  refine stT rfl rfl (fun hg => have hg' := BP.t hg; OK1.mv (Has.t rfl)) rfl ?_
  refine stT rfl rfl (fun hg => have hg' := BP.t hg; OK1.len sl22 (Has.g rfl hg)) rfl ?_
  refine stT rfl rfl (fun hg => have hg' := BP.t hg; OK1.ltI (Has.g rfl hg) (Has.g rfl hg)) rfl ?_
  refine st (OK1.pickAnd (Has.t rfl) (fun h => Has.g rfl h)) rfl ?_
  refine nl ?_
  refine At.thn (hK3 _ _ ?_); clear hK3
  refine Tri.cv (Cv.wk (.cons (t := 0) (Has.t rfl) (.cons (t := 1) (Has.t rfl) (.cons (t := 4) (Has.t rfl) (.cons (t := 12) (Has.t rfl) .nil))))) ?_
  refine Tri.cond (Has.t rfl) (fun hc1 => ?_) (fun hc1 => ?_)
  · have hc1 := BP.t hc1
    refine Tri.seq fun K4 hK4 => ?_
    refine Tri.region ?_
    refine st (OK1.mv (Has.t rfl)) rfl ?_
    refine st (OK1.mv (Has.t rfl)) rfl ?_
    refine st (OK1.ixK sl22 ty32 (Has.t rfl) (Has.t rfl) zc_len ⟨by omega, by omega⟩ (getD_some (d := (false, [])) (by first | omega | (simp only [Int.toNat_natCast, List.length_set]; omega)))) rfl ?_
    refine st (OK1.loadP (Has.t rfl) ty32 rfl (Ss' := [_, _]) rfl) rfl ?_
    refine Ops.store (Has.t rfl) (Has.t rfl) (i := 0) rfl ty32 rfl rfl (Ss' := [_, _]) rfl (M' := [(some _, cellM [_, _])]) rfl ?_
    refine nl ?_
    refine At.thn (hK4 _ _ ?_); clear hK4
    refine Tri.cv (Cv.wk (.cons (t := 4) (Has.t rfl) .nil)) ?_
    refine Tri.ret ?_
    refine At.thr ?_
    refine rt1 (.inl rfl) Try.results50 rfl (.cell rfl (i := 0) rfl ty32 rfl ?_ .nil)
    all_goals (rfl)
  · have hc1 := BP.f hc1
    refine Tri.skip ?_
    refine At.thn (hK2 _ _ ?_); clear hK2
    refine Tri.seq fun K5 hK5 => ?_
    refine Tri.region ?_
    refine st (OK1.call (zint_Of) (.cons (Has.cI 0 rfl) .nil)) rfl ?_
    refine Ops.store (Has.t rfl) (Has.t rfl) (i := 0) rfl ty32 rfl rfl (Ss' := [_, _]) rfl (M' := [(some _, cellM [_, _])]) rfl ?_
    refine nl ?_
    refine At.thn (hK5 _ _ ?_); clear hK5
    refine Tri.ret ?_
    refine rt1 (.inl rfl) Try.results50 rfl (.cell rfl (i := 0) rfl ty32 rfl ?_ .nil)
    all_goals (exact isZ0.symm.trans (congrArg Flat (show zc (false, []) = _ by rw [List.getD, List.getElem?_eq_none (by omega)]; rfl)))
set_option maxHeartbeats 4000000 in
theorem ref10_Add {xs ys : List (Bool × List Nat)} {K : Nat} (hx : Bd (vals xs) K) (hy : Bd (vals ys) K) (hK : K ≤ 400000000) (hn : xs.length ≤ 400000) (hm : ys.length ≤ 400000) : Ctr Try.prog 15 [SlK 2 zc xs, SlK 2 zc ys] (isP (radd (vals xs) (vals ys))) := by
  refine Ctr.intro Try.func15 rfl (by kernel_rfl) Try.ntmps15 rfl fun w0 F0 => ?_
  refine Tri.cv (Cv.wk (.cons (t := 0) (Has.t rfl) (.cons (t := 1) (Has.t rfl) .nil))) ?_
  refine Tri.fact (Has.lenLt (Has.t (t := 0) rfl)) fun lt0 => ?_
  refine Tri.fact (Has.lenLt (Has.t (t := 1) rfl)) fun lt1 => ?_
  have hvx := vals_len xs
  have hvy := vals_len ys
  obtain ⟨F, hF⟩ : ∃ F, F = radd (vals xs) (vals ys) := ⟨_, rfl⟩
  have hFl : F.length = max xs.length ys.length := by rw [hF, radd_len, hvx, hvy]
  refine Tri.seq fun K1 hK1 => ?_
  refine Tri.region ?_
  refine st (OK1.as (Has.cWK (k := 2) (fk := zc))) rfl ?_
  refine nl ?_
  refine At.thn (hK1 _ _ ?_); clear hK1
  refine Tri.seq fun K2 hK2 => ?_
  refine Tri.region ?_
  refine Ops.cv (Cv.grow0K (α := Bool × List Nat) zc) ?_
  refine st (OK1.as (Has.cGr (α := Bool × List Nat))) rfl ?_
  refine nl ?_
  refine At.thn (hK2 _ _ ?_); clear hK2
  refine Tri.seq fun K3 hK3 => ?_
  refine Tri.seq fun K4 hK4 => ?_
  refine Tri.region ?_
  refine st (OK1.as (Has.cI 0 rfl)) rfl ?_
  refine nl ?_
  refine At.thn (hK4 _ _ ?_); clear hK4
  refine Tri.block ?_
  refine Tri.loopF [0, 1, 4] (fun (z : { z : Nat × Gr (Bool × List Nat) // z.1 ≤ F.length }) => match z with | ⟨(i, g), hI⟩ => [(6, isI (i : Int)), (5, isGr g ((F.take i).map nz).length)]) (fun M => fun (z : { z : Nat × Gr (Bool × List Nat) // z.1 ≤ F.length }) => match z with | ⟨(i, g), hI⟩ => [grMK zc g ((F.take i).map nz)]) (fun (z : { z : Nat × Gr (Bool × List Nat) // z.1 ≤ F.length }) => match z with | ⟨(i, g), hI⟩ => F.length - i) (⟨(0, Gr.nil), Nat.zero_le _⟩) (Cv.mem (.cons (t := 6) (Has.t' rfl ?_) (.cons (t := 5) (Has.t' rfl ?_) (.cons (t := 0) (Has.t rfl) (.cons (t := 1) (Has.t rfl) (.cons (t := 4) (Has.t rfl) .nil))))) ?_) ?_
  · rfl
  · rfl
  · rfl
  rintro ⟨⟨i, g⟩, hI⟩ K5 hK5
  refine Tri.cv (Cv.wk (.cons (t := 6) (Has.t rfl) (.cons (t := 5) (Has.t rfl) (.cons (t := 0) (Has.t rfl) (.cons (t := 1) (Has.t rfl) (.cons (t := 4) (Has.t rfl) .nil)))))) ?_
  refine Tri.memEq (M' := [grMK zc g ((F.take i).map nz)]) rfl ?_
  simp only [] at hI
  have hyl : ((F.take i).map nz).length = i := by rw [List.length_map, List.length_take]; omega
  refine Tri.seq fun K6 hK6 => ?_
  refine Tri.seq fun K7 hK7 => ?_
  refine Tri.region ?_
  refine st (OK1.mv (Has.t rfl)) rfl ?_
  refine st (OK1.mv (Has.t rfl)) rfl ?_
  refine st (OK1.len sl22 (Has.t rfl)) rfl ?_
  refine st (OK1.ltI (Has.t rfl) (Has.t rfl)) rfl ?_
  refine st (OK1.mv (Has.t rfl)) rfl ?_
  refine stF rfl rfl (fun hg => have hg' := BP.t hg; OK1.mv (Has.t rfl)) rfl ?_
  refine stF rfl rfl (fun hg => have hg' := BP.t hg; OK1.mv (Has.t rfl)) rfl ?_
  refine stF rfl rfl (fun hg => have hg' := BP.t hg; OK1.len sl22 (Has.g rfl hg)) rfl ?_
  refine stF rfl rfl (fun hg => have hg' := BP.t hg; OK1.ltI (Has.g rfl hg) (Has.g rfl hg)) rfl ?_
  refine st (OK1.pickOr (Has.t rfl) (fun h => Has.g rfl (ng h))) rfl ?_
  refine nl ?_
  refine At.thn (hK7 _ _ ?_); clear hK7
  refine Tri.cond (Has.t rfl) (fun hc1 => ?_) (fun hc1 => ?_)
  · have hc1 := BP.t hc1
    refine Tri.skip ?_
    refine At.thn (hK6 _ _ ?_); clear hK6
    refine Tri.seq fun K8 hK8 => ?_
    refine Tri.block ?_
    refine Tri.region ?_
    refine st (OK1.mv (Has.t rfl)) rfl ?_
    refine st (OK1.mv (Has.t rfl)) rfl ?_
    refine st (OK1.mv (Has.t rfl)) rfl ?_
    refine st (OK1.call (ref10_at) (.cons (Has.t rfl) (.cons (Has.t rfl) .nil))) rfl ?_
    refine st (OK1.mv (Has.t rfl)) rfl ?_
    refine st (OK1.mv (Has.t rfl)) rfl ?_
    refine st (OK1.call (ref10_at) (.cons (Has.t rfl) (.cons (Has.t rfl) .nil))) rfl ?_
    refine st (OK1.eq (OK1.call (zint_Add (by have := hx.raw i; omega) (by have := hy.raw i; omega)) (.cons (Has.t rfl) (.cons (Has.t rfl) .nil))) ((show isZ _ = Flat (zc (nz (cf F i))) from isZ_eq (by rw [hF, cf_radd, cf_vals, cf_vals])))) rfl ?_
    refine st (OK1.buildS [isB false, SlM isU []] sl22 ty32 zero32 (fun _ _ => ⟨rfl, nilM _ _, trivial⟩) rfl rfl (.cons (Has.t rfl) rfl rfl rfl .nil) rfl (S := SlK 2 zc [nz (cf F i)]) rfl) rfl ?_
    refine Ops.appendGK (fk := zc) (u := (false, [])) zc_len (by decide) (fun _ => inferInstance) sl22 ty32 zero32 (fun _ _ => ⟨rfl, nilM _ _, trivial⟩) by32 (Has.t rfl) (i := 0) rfl (Has.t rfl) (by rw [hyl]; show i + 1 ≤ _; omega) (by simp) rfl fun gr1 => ?_
    refine Ops.memEq (M' := [grMK _ _ _]) rfl ?_
    refine st (OK1.as (Has.t rfl)) rfl ?_
    refine nl ?_
    refine At.bln ?_
    refine At.thn (hK8 _ _ ?_); clear hK8
    refine Tri.region ?_
    refine st (OK1.mv (Has.t rfl)) rfl ?_
    refine st (OK1.addI (Has.t rfl) (Has.cI 1 rfl) (by first | omega | assumption) (by first | omega | assumption)) rfl ?_
    refine st (OK1.as (Has.t rfl)) rfl ?_
    refine nl ?_
    refine At.thn ?_
    refine hK5 (⟨(i + 1, gr1), by show i + 1 ≤ _; omega⟩) _ _ ?_ (Cv.mem (.cons (t := 6) (Has.t' rfl ?_) (.cons (t := 5) (Has.t' rfl ?_) (.cons (t := 0) (Has.t rfl) (.cons (t := 1) (Has.t rfl) (.cons (t := 4) (Has.t rfl) .nil))))) ?_)
    · show F.length - (i + 1) < F.length - i; omega
    · exact isI_eq (by omega)
    · exact isGr_eq (by rw [← take_map_succ _ _ (by omega), List.length_append])
    · exact grMK_eq (take_map_succ _ _ (by omega))
  · have hc1 := BP.f hc1
    refine Tri.exit ?_
    refine At.the ?_
    refine At.the ?_
    refine At.blh ?_
    refine At.thn (hK3 _ _ ?_); clear hK3
    refine Tri.cv (Cv.wk (.cons (t := 4) (Has.t rfl) (.cons (t := 5) (Has.t rfl) .nil))) ?_
    refine Tri.seq fun K9 hK9 => ?_
    refine Tri.cv (Cv.freezeGK (t := 5) (i := 0) (ys := (F.take i).map nz) zc_len rfl rfl rfl) ?_
    refine Tri.memEq (M' := []) rfl ?_
    refine Tri.cv (Cv.wk (.cons (t := 4) (Has.t rfl) (.cons (t := 5) (Has.t rfl) .nil))) ?_
    refine Tri.region ?_
    refine st (OK1.mv (Has.t rfl)) rfl ?_
    refine st (OK1.as (Has.t rfl)) rfl ?_
    refine nl ?_
    refine At.thn (hK9 _ _ ?_); clear hK9
    refine Tri.ret ?_
    refine rt1 (.inl rfl) Try.results15 rfl (.tmp (Has.t' rfl ?_) .nil)
    all_goals (exact isP_eq (by rw [List.take_of_length_le (by omega), hF]))
set_option maxHeartbeats 4000000 in
theorem ref10_Mul {xs ys : List (Bool × List Nat)} {K L : Nat} (hx : Bd (vals xs) K) (hy : Bd (vals ys) L) (hK : K ≤ 400000000) (hL : L ≤ 400000000) (hn : xs.length ≤ 400000) (hm : ys.length ≤ 400000) : Ctr Try.prog 16 [SlK 2 zc xs, SlK 2 zc ys] (isP (rmul (vals xs) (vals ys))) := by
  refine Ctr.intro Try.func16 rfl (by kernel_rfl) Try.ntmps16 rfl fun w0 F0 => ?_
  refine Tri.cv (Cv.wk (.cons (t := 0) (Has.t rfl) (.cons (t := 1) (Has.t rfl) .nil))) ?_
  refine Tri.fact (Has.lenLt (Has.t (t := 0) rfl)) fun lt0 => ?_
  refine Tri.fact (Has.lenLt (Has.t (t := 1) rfl)) fun lt1 => ?_
  have hvx := vals_len xs
  have hvy := vals_len ys
  obtain ⟨F, hF⟩ : ∃ F, F = rmul (vals xs) (vals ys) := ⟨_, rfl⟩
  have hFl : F.length = xs.length + ys.length := by rw [hF, rmul_len, hvx, hvy]
  refine Tri.seq fun K1 hK1 => ?_
  refine Tri.region ?_
  refine st (OK1.as (Has.cWK (k := 2) (fk := zc))) rfl ?_
  refine nl ?_
  refine At.thn (hK1 _ _ ?_); clear hK1
  refine Tri.seq fun K2 hK2 => ?_
  refine Tri.region ?_
  refine Ops.cv (Cv.grow0K (α := Bool × List Nat) zc) ?_
  refine st (OK1.as (Has.cGr (α := Bool × List Nat))) rfl ?_
  refine nl ?_
  refine At.thn (hK2 _ _ ?_); clear hK2
  refine Tri.seq fun K3 hK3 => ?_
  refine Tri.seq fun K4 hK4 => ?_
  refine Tri.region ?_
  refine st (OK1.as (Has.cI 0 rfl)) rfl ?_
  refine nl ?_
  refine At.thn (hK4 _ _ ?_); clear hK4
  refine Tri.block ?_
  refine Tri.loopF [0, 1, 4] (fun (z : { z : Nat × Gr (Bool × List Nat) // z.1 ≤ F.length }) => match z with | ⟨(i, g), hI⟩ => [(6, isI (i : Int)), (5, isGr g ((F.take i).map nz).length)]) (fun M => fun (z : { z : Nat × Gr (Bool × List Nat) // z.1 ≤ F.length }) => match z with | ⟨(i, g), hI⟩ => [grMK zc g ((F.take i).map nz)]) (fun (z : { z : Nat × Gr (Bool × List Nat) // z.1 ≤ F.length }) => match z with | ⟨(i, g), hI⟩ => F.length - i) (⟨(0, Gr.nil), Nat.zero_le _⟩) (Cv.mem (.cons (t := 6) (Has.t' rfl ?_) (.cons (t := 5) (Has.t' rfl ?_) (.cons (t := 0) (Has.t rfl) (.cons (t := 1) (Has.t rfl) (.cons (t := 4) (Has.t rfl) .nil))))) ?_) ?_
  · rfl
  · rfl
  · rfl
  rintro ⟨⟨i, g⟩, hI⟩ K5 hK5
  refine Tri.cv (Cv.wk (.cons (t := 6) (Has.t rfl) (.cons (t := 5) (Has.t rfl) (.cons (t := 0) (Has.t rfl) (.cons (t := 1) (Has.t rfl) (.cons (t := 4) (Has.t rfl) .nil)))))) ?_
  refine Tri.memEq (M' := [grMK zc g ((F.take i).map nz)]) rfl ?_
  simp only [] at hI
  have hyl : ((F.take i).map nz).length = i := by rw [List.length_map, List.length_take]; omega
  refine Tri.seq fun K6 hK6 => ?_
  refine Tri.seq fun K7 hK7 => ?_
  refine Tri.region ?_
  refine st (OK1.mv (Has.t rfl)) rfl ?_
  refine st (OK1.mv (Has.t rfl)) rfl ?_
  refine st (OK1.len sl22 (Has.t rfl)) rfl ?_
  refine st (OK1.mv (Has.t rfl)) rfl ?_
  refine st (OK1.len sl22 (Has.t rfl)) rfl ?_
  refine st (OK1.addI (Has.t rfl) (Has.t rfl) (by first | omega | assumption) (by first | omega | assumption)) rfl ?_
  refine st (OK1.ltI (Has.t rfl) (Has.t rfl)) rfl ?_
  refine nl ?_
  refine At.thn (hK7 _ _ ?_); clear hK7
  refine Tri.cond (Has.t rfl) (fun hc1 => ?_) (fun hc1 => ?_)
  · have hc1 := BP.t hc1
    refine Tri.skip ?_
    refine At.thn (hK6 _ _ ?_); clear hK6
    refine Tri.seq fun K8 hK8 => ?_
    refine Tri.block ?_
    refine Tri.seq fun K9 hK9 => ?_
    refine Tri.region ?_
    refine st (OK1.call (zint_Of) (.cons (Has.cI 0 rfl) .nil)) rfl ?_
    refine Ops.alloc [isB false, SlM isU []] zero32 (fun _ _ => ⟨rfl, nilM _ _, trivial⟩) rfl fun b1 => ?_
    refine Ops.store (Has.t rfl) (Has.t rfl) (i := 0) rfl ty32 rfl rfl (Ss' := [_, _]) rfl (M' := [(some _, cellM [_, _]), _]) rfl ?_
    refine nl ?_
    refine At.thn (hK9 _ _ ?_); clear hK9
    refine Tri.seq fun K10 hK10 => ?_
    refine Tri.seq fun K11 hK11 => ?_
    refine Tri.region ?_
    refine st (OK1.as (Has.cI 0 rfl)) rfl ?_
    refine nl ?_
    refine At.thn (hK11 _ _ ?_); clear hK11
    refine Tri.block ?_
    refine Tri.loopF [0, 1, 4, 6, 5, 9, 10, 11, 12, 13, 14, 15, 18, 7] (fun (z : { k : Nat // k ≤ i + 1 }) => match z with | ⟨k, hk⟩ => [(8, isI (k : Int))]) (fun M => fun (z : { k : Nat // k ≤ i + 1 }) => match z with | ⟨k, hk⟩ => [zM b1 (rows (cf (vals xs)) (cf (vals ys)) k i), grMK zc g ((F.take i).map nz)]) (fun (z : { k : Nat // k ≤ i + 1 }) => match z with | ⟨k, hk⟩ => i + 1 - k) (⟨0, Nat.zero_le _⟩) (Cv.mem (.cons (t := 8) (Has.t' rfl ?_) (.cons (t := 0) (Has.t rfl) (.cons (t := 1) (Has.t rfl) (.cons (t := 4) (Has.t rfl) (.cons (t := 6) (Has.t rfl) (.cons (t := 5) (Has.t rfl) (.cons (t := 9) (Has.t rfl) (.cons (t := 10) (Has.t rfl) (.cons (t := 11) (Has.t rfl) (.cons (t := 12) (Has.t rfl) (.cons (t := 13) (Has.t rfl) (.cons (t := 14) (Has.t rfl) (.cons (t := 15) (Has.t rfl) (.cons (t := 18) (Has.t rfl) (.cons (t := 7) (Has.t rfl) .nil))))))))))))))) ?_) ?_
    · rfl
    · rfl
    rintro ⟨k, hk⟩ K12 hK12
    refine Tri.cv (Cv.wk (.cons (t := 8) (Has.t rfl) (.cons (t := 0) (Has.t rfl) (.cons (t := 1) (Has.t rfl) (.cons (t := 4) (Has.t rfl) (.cons (t := 6) (Has.t rfl) (.cons (t := 5) (Has.t rfl) (.cons (t := 9) (Has.t rfl) (.cons (t := 10) (Has.t rfl) (.cons (t := 11) (Has.t rfl) (.cons (t := 12) (Has.t rfl) (.cons (t := 13) (Has.t rfl) (.cons (t := 14) (Has.t rfl) (.cons (t := 15) (Has.t rfl) (.cons (t := 18) (Has.t rfl) (.cons (t := 7) (Has.t rfl) .nil)))))))))))))))) ?_
    refine Tri.memEq (M' := [zM b1 (rows (cf (vals xs)) (cf (vals ys)) k i), grMK zc g ((F.take i).map nz)]) rfl ?_
    have hrw := rows_nw hx hy k i
    refine Tri.seq fun K13 hK13 => ?_
    refine Tri.seq fun K14 hK14 => ?_
    refine Tri.region ?_
    refine st (OK1.mv (Has.t rfl)) rfl ?_
    refine st (OK1.mv (Has.t rfl)) rfl ?_
    refine st (OK1.leI (Has.t rfl) (Has.t rfl)) rfl ?_
    refine nl ?_
    refine At.thn (hK14 _ _ ?_); clear hK14
    refine Tri.cond (Has.t rfl) (fun hc2 => ?_) (fun hc2 => ?_)
    · have hc2 := BP.t hc2
      refine Tri.skip ?_
      refine At.thn (hK13 _ _ ?_); clear hK13
      refine Tri.seq fun K15 hK15 => ?_
      refine Tri.block ?_
      refine Tri.dr ?_
      refine DrG.st (i := 0) [] rfl rfl rfl (by kernel_rfl) (OKG.o rfl (OK1.load (Has.t rfl) (i := 0) rfl ty32 rfl (Ss' := [_, _]) rfl)) ?_
      refine DrG.st (i := 1) [] rfl rfl rfl (by kernel_rfl) (OKG.o rfl (OK1.mv (Has.t rfl))) ?_
      refine DrG.st (i := 2) [] rfl rfl rfl (by kernel_rfl) (OKG.o rfl (OK1.mv (Has.t rfl))) ?_
      refine DrG.st (i := 3) [25, 26] rfl rfl rfl (by kernel_rfl) (OKG.o rfl (OK1.call (ref10_at) (.cons (Has.t rfl) (.cons (Has.t rfl) .nil)))) ?_
      refine DrG.st (i := 4) [] rfl rfl rfl (by kernel_rfl) (OKG.o rfl (OK1.mv (Has.t rfl))) ?_
      refine DrG.st (i := 5) [] rfl rfl rfl (by kernel_rfl) (OKG.o rfl (OK1.mv (Has.t rfl))) ?_
      refine DrG.st (i := 6) [] rfl rfl rfl (by kernel_rfl) (OKG.o rfl (OK1.mv (Has.t rfl))) ?_
      refine DrG.st (i := 7) [29, 30] rfl rfl rfl (by kernel_rfl) (OKG.o rfl (OK1.eq (OK1.subI (Has.t rfl) (Has.t rfl) (by first | omega | assumption) (by first | omega | assumption)) ((show isI _ = isI ((i - k : Nat) : Int) from isI_eq (by omega))))) ?_
      refine DrG.st (i := 8) [28, 31] rfl rfl rfl (by kernel_rfl) (OKG.o rfl (OK1.call (ref10_at (i := i - k)) (.cons (Has.t rfl) (.cons (Has.t rfl) .nil)))) ?_
      refine DrG.st (i := 9) [27, 32] rfl rfl rfl (by kernel_rfl) (OKG.o rfl (OK1.eq (OK1.call (zint_Mul (by have := hx.raw k; omega) (by have := hy.raw (i - k); omega)) (.cons (Has.t rfl) (.cons (Has.t rfl) .nil))) ((show isZ _ = isZ (cf (vals xs) k * cf (vals ys) (i - k)) from isZ_eq (by rw [cf_vals, cf_vals]))))) ?_
      refine DrG.fin (n := 10) mixed (by kernel_rfl) (by kernel_rfl) (by kernel_rfl) ?_
      refine Ops.cv (Cv.wk (.cons (t := 0) (Has.t rfl) (.cons (t := 1) (Has.t rfl) (.cons (t := 4) (Has.t rfl) (.cons (t := 6) (Has.t rfl) (.cons (t := 5) (Has.t rfl) (.cons (t := 9) (Has.t rfl) (.cons (t := 10) (Has.t rfl) (.cons (t := 11) (Has.t rfl) (.cons (t := 12) (Has.t rfl) (.cons (t := 13) (Has.t rfl) (.cons (t := 14) (Has.t rfl) (.cons (t := 15) (Has.t rfl) (.cons (t := 18) (Has.t rfl) (.cons (t := 7) (Has.t rfl) (.cons (t := 8) (Has.t rfl) (.cons (t := 19) (Has.t rfl) (.cons (t := 20) (Has.t rfl) (.cons (t := 21) (Has.t rfl) (.cons (t := 24) (Has.t rfl) (.cons (t := 25) (Has.t rfl) (.cons (t := 26) (Has.t rfl) (.cons (t := 27) (Has.t rfl) (.cons (t := 28) (Has.t rfl) (.cons (t := 29) (Has.t rfl) (.cons (t := 30) (Has.t rfl) (.cons (t := 31) (Has.t rfl) (.cons (t := 32) (Has.t rfl) (.cons (t := 33) (Has.t rfl) .nil))))))))))))))))))))))))))))) ?_
      refine st (OK1.eq (OK1.call (zint_Add (by rw [val_words]; omega) (by rw [val_words]; have := nz_mul (cf (vals xs) k) (cf (vals ys) (i - k)); have := hx k; have := hy (i - k); omega)) (.cons (Has.t rfl) (.cons (Has.t rfl) .nil))) ((show isZ _ = isZ (rows (cf (vals xs)) (cf (vals ys)) k i + cf (vals xs) k * cf (vals ys) (i - k)) from isZ_eq (by simp only [zv_nf])))) rfl ?_
      refine Ops.store (Has.t rfl) (Has.t rfl) (i := 0) rfl ty32 rfl rfl (Ss' := [_, _]) rfl (M' := [(some _, cellM [_, _]), _]) rfl ?_
      refine nl ?_
      refine At.bln ?_
      refine At.thn (hK15 _ _ ?_); clear hK15
      refine Tri.region ?_
      refine st (OK1.mv (Has.t rfl)) rfl ?_
      refine st (OK1.addI (Has.t rfl) (Has.cI 1 rfl) (by first | omega | assumption) (by first | omega | assumption)) rfl ?_
      refine st (OK1.as (Has.t rfl)) rfl ?_
      refine nl ?_
      refine At.thn ?_
      refine hK12 (⟨k + 1, by omega⟩) _ _ ?_ (Cv.mem (.cons (t := 8) (Has.t' rfl ?_) (.cons (t := 0) (Has.t rfl) (.cons (t := 1) (Has.t rfl) (.cons (t := 4) (Has.t rfl) (.cons (t := 6) (Has.t rfl) (.cons (t := 5) (Has.t rfl) (.cons (t := 9) (Has.t rfl) (.cons (t := 10) (Has.t rfl) (.cons (t := 11) (Has.t rfl) (.cons (t := 12) (Has.t rfl) (.cons (t := 13) (Has.t rfl) (.cons (t := 14) (Has.t rfl) (.cons (t := 15) (Has.t rfl) (.cons (t := 18) (Has.t rfl) (.cons (t := 7) (Has.t rfl) .nil))))))))))))))) ?_)
      · show i + 1 - (k + 1) < i + 1 - k; omega
      · exact isI_eq (by omega)
      · exact zM_eq (by rw [← rows_step _ _ _ _ (by omega)]) rfl
    · have hc2 := BP.f hc2
      refine Tri.exit ?_
      refine At.the ?_
      refine At.the ?_
      refine At.blh ?_
      refine At.thn (hK10 _ _ ?_); clear hK10
      refine Tri.region ?_
      refine st (OK1.mv (Has.t rfl)) rfl ?_
      refine st (OK1.eq (OK1.load (Has.t rfl) (i := 0) rfl ty32 rfl (Ss' := [_, _]) rfl) ((show isZ _ = Flat (zc (nz (cf F i))) from isZ_eq (by rw [show k = i + 1 by omega, rows_full, hF, cf_rmul])))) rfl ?_
      refine st (OK1.buildS [isB false, SlM isU []] sl22 ty32 zero32 (fun _ _ => ⟨rfl, nilM _ _, trivial⟩) rfl rfl (.cons (Has.t rfl) rfl rfl rfl .nil) rfl (S := SlK 2 zc [nz (cf F i)]) rfl) rfl ?_
      refine Ops.appendGK (fk := zc) (u := (false, [])) zc_len (by decide) (fun _ => inferInstance) sl22 ty32 zero32 (fun _ _ => ⟨rfl, nilM _ _, trivial⟩) by32 (Has.t rfl) (i := 1) rfl (Has.t rfl) (by rw [hyl]; show i + 1 ≤ _; omega) (by simp) rfl fun gr1 => ?_
      refine Ops.memEq (M' := [_, grMK _ _ _]) rfl ?_
      refine st (OK1.as (Has.t rfl)) rfl ?_
      refine nl ?_
      refine At.bln ?_
      refine At.thn (hK8 _ _ ?_); clear hK8
      refine Tri.region ?_
      refine st (OK1.mv (Has.t rfl)) rfl ?_
      refine st (OK1.addI (Has.t rfl) (Has.cI 1 rfl) (by first | omega | assumption) (by first | omega | assumption)) rfl ?_
      refine st (OK1.as (Has.t rfl)) rfl ?_
      refine nl ?_
      refine At.thn ?_
      refine hK5 (⟨(i + 1, gr1), by show i + 1 ≤ _; omega⟩) _ _ ?_ (Cv.trans (Cv.drop ((.cons _ (.cons_cons _ .slnil)))) (Cv.mem (.cons (t := 6) (Has.t' rfl ?_) (.cons (t := 5) (Has.t' rfl ?_) (.cons (t := 0) (Has.t rfl) (.cons (t := 1) (Has.t rfl) (.cons (t := 4) (Has.t rfl) .nil))))) ?_))
      · show F.length - (i + 1) < F.length - i; omega
      · exact isI_eq (by omega)
      · exact isGr_eq (by rw [← take_map_succ _ _ (by omega), List.length_append])
      · exact grMK_eq (take_map_succ _ _ (by omega))
  · have hc1 := BP.f hc1
    refine Tri.exit ?_
    refine At.the ?_
    refine At.the ?_
    refine At.blh ?_
    refine At.thn (hK3 _ _ ?_); clear hK3
    refine Tri.cv (Cv.wk (.cons (t := 4) (Has.t rfl) (.cons (t := 5) (Has.t rfl) .nil))) ?_
    refine Tri.seq fun K16 hK16 => ?_
    refine Tri.cv (Cv.freezeGK (t := 5) (i := 0) (ys := (F.take i).map nz) zc_len rfl rfl rfl) ?_
    refine Tri.memEq (M' := []) rfl ?_
    refine Tri.cv (Cv.wk (.cons (t := 4) (Has.t rfl) (.cons (t := 5) (Has.t rfl) .nil))) ?_
    refine Tri.region ?_
    refine st (OK1.mv (Has.t rfl)) rfl ?_
    refine st (OK1.as (Has.t rfl)) rfl ?_
    refine nl ?_
    refine At.thn (hK16 _ _ ?_); clear hK16
    refine Tri.ret ?_
    refine rt1 (.inl rfl) Try.results16 rfl (.tmp (Has.t' rfl ?_) .nil)
    all_goals (exact isP_eq (by rw [List.take_of_length_le (by omega), hF]))
set_option maxHeartbeats 4000000 in
theorem ref10_Eval {xs : List (Bool × List Nat)} {m : Bool} {ys : List Nat} {K L : Nat} (hx : Bd (vals xs) K) (hc : (List.length (words (val ys))) ≤ L) (hK : K + (L + 1) * (xs.length + 1) ≤ 400000000) : Ctr Try.prog 31 [SlK 2 zc xs, Flat [isB m, isWords ys]] (isZ (peval (vals xs) (zv m ys))) := by
  refine Ctr.intro Try.func31 rfl (by kernel_rfl) Try.ntmps31 rfl fun w0 F0 => ?_
  refine Tri.cv (Cv.wk (.cons (t := 0) (Has.t rfl) (.cons (t := 1) (Has.t rfl) .nil))) ?_
  refine Tri.fact (Has.lenLt (Has.t (t := 0) rfl)) fun lt0 => ?_
  refine Tri.fact (Has.okZ (Has.t (t := 1) rfl)) fun okz1 => ?_
  have hvx := vals_len xs
  have hcz : (List.length (words (zv m ys).natAbs)) ≤ L := by rw [zv_nw]; exact hc
  have hL1 : L + 1 ≤ (L + 1) * (xs.length + 1) := Nat.le_mul_of_pos_right _ (by omega)
  refine Tri.seq fun K1 hK1 => ?_
  refine Tri.region ?_
  refine Ops.box (Has.t rfl) rfl fun b1 => ?_
  refine Ops.alloc [isB false, SlM isU []] zero32 (fun _ _ => ⟨rfl, nilM _ _, trivial⟩) rfl fun b2 => ?_
  refine nl ?_
  refine At.thn (hK1 _ _ ?_); clear hK1
  refine Tri.seq fun K2 hK2 => ?_
  refine Tri.region ?_
  refine st (OK1.call (zint_Of) (.cons (Has.cI 0 rfl) .nil)) rfl ?_
  refine st (OK1.call (zint_Of) (.cons (Has.cI 1 rfl) .nil)) rfl ?_
  refine Ops.alloc [isB false, SlM isU []] zero32 (fun _ _ => ⟨rfl, nilM _ _, trivial⟩) rfl fun b3 => ?_
  refine Ops.alloc [isB false, SlM isU []] zero32 (fun _ _ => ⟨rfl, nilM _ _, trivial⟩) rfl fun b4 => ?_
  refine Ops.store (Has.t rfl) (Has.t rfl) (i := 1) rfl ty32 rfl rfl (Ss' := [_, _]) rfl (M' := [_, (some _, cellM [_, _]), _, _]) rfl ?_
  refine Ops.store (Has.t rfl) (Has.t rfl) (i := 0) rfl ty32 rfl rfl (Ss' := [_, _]) rfl (M' := [(some _, cellM [_, _]), _, _, _]) rfl ?_
  refine nl ?_
  refine At.thn (hK2 _ _ ?_); clear hK2
  refine Tri.seq fun K3 hK3 => ?_
  refine Tri.seq fun K4 hK4 => ?_
  refine Tri.region ?_
  refine st (OK1.as (Has.cI 0 rfl)) rfl ?_
  refine nl ?_
  refine At.thn (hK4 _ _ ?_); clear hK4
  refine Tri.block ?_
  refine Tri.loopF [0, 3, 4, 5, 6] (fun (z : { i : Nat // i ≤ xs.length }) => match z with | ⟨i, hi⟩ => [(7, isI (i : Int))]) (fun M => fun (z : { i : Nat // i ≤ xs.length }) => match z with | ⟨i, hi⟩ => [zM b4 (zv m ys ^ i), zM b3 (esum (vals xs) (zv m ys) i), (some b2, cellM [isB false, SlM isU []]), (some b1, cellM [isB m, SlM isU ys])]) (fun (z : { i : Nat // i ≤ xs.length }) => match z with | ⟨i, hi⟩ => xs.length - i) (⟨0, Nat.zero_le _⟩) (Cv.mem (.cons (t := 7) (Has.t' rfl ?_) (.cons (t := 0) (Has.t rfl) (.cons (t := 3) (Has.t rfl) (.cons (t := 4) (Has.t rfl) (.cons (t := 5) (Has.t rfl) (.cons (t := 6) (Has.t rfl) .nil)))))) ?_) ?_
  · rfl
  · exact zM_eq (Int.pow_zero _).symm (zM_eq rfl rfl)
  rintro ⟨i, hi⟩ K5 hK5
  refine Tri.cv (Cv.wk (.cons (t := 7) (Has.t rfl) (.cons (t := 0) (Has.t rfl) (.cons (t := 3) (Has.t rfl) (.cons (t := 4) (Has.t rfl) (.cons (t := 5) (Has.t rfl) (.cons (t := 6) (Has.t rfl) .nil))))))) ?_
  refine Tri.memEq (M' := [zM b4 (zv m ys ^ i), zM b3 (esum (vals xs) (zv m ys) i), (some b2, cellM [isB false, SlM isU []]), (some b1, cellM [isB m, SlM isU ys])]) rfl ?_
  obtain ⟨hw1, hw2⟩ := esum_nw hx hcz i
  have hxr := hx.raw i
  have hml : (L + 1) * i ≤ (L + 1) * (xs.length + 1) := Nat.mul_le_mul_left _ (by omega)
  have hml2 : (L + 1) * i = L * i + i := by rw [Nat.add_mul, Nat.one_mul]
  have hmm := nz_mul (cf (vals xs) i) (zv m ys ^ i)
  have hxi := hx i
  refine Tri.seq fun K6 hK6 => ?_
  refine Tri.seq fun K7 hK7 => ?_
  refine Tri.region ?_
  refine st (OK1.mv (Has.t rfl)) rfl ?_
  refine st (OK1.mv (Has.t rfl)) rfl ?_
  refine st (OK1.len sl22 (Has.t rfl)) rfl ?_
  refine st (OK1.ltI (Has.t rfl) (Has.t rfl)) rfl ?_
  refine nl ?_
  refine At.thn (hK7 _ _ ?_); clear hK7
  refine Tri.cond (Has.t rfl) (fun hc1 => ?_) (fun hc1 => ?_)
  · have hc1 := BP.t hc1
    refine Tri.skip ?_
    refine At.thn (hK6 _ _ ?_); clear hK6
    refine Tri.seq fun K8 hK8 => ?_
    refine Tri.block ?_
    refine Tri.seq fun K9 hK9 => ?_
    refine Tri.dr ?_
    refine DrG.st (i := 0) [] rfl rfl rfl (by kernel_rfl) (OKG.o rfl (OK1.load (Has.t rfl) (i := 1) rfl ty32 rfl (Ss' := [_, _]) rfl)) ?_
    refine DrG.st (i := 1) [] rfl rfl rfl (by kernel_rfl) (OKG.o rfl (OK1.mv (Has.t rfl))) ?_
    refine DrG.st (i := 2) [] rfl rfl rfl (by kernel_rfl) (OKG.o rfl (OK1.mv (Has.t rfl))) ?_
    refine DrG.st (i := 3) [17, 18] rfl rfl rfl (by kernel_rfl) (OKG.o rfl (OK1.ixK sl22 ty32 (Has.t rfl) (Has.t rfl) zc_len ⟨by omega, by omega⟩ (getD_some (d := (false, [])) (by first | omega | (simp only [Int.toNat_natCast, List.length_set]; omega))))) ?_
    refine DrG.st (i := 4) [19] rfl rfl rfl (by kernel_rfl) (OKG.o rfl (OK1.loadP (Has.t rfl) ty32 rfl (Ss' := [_, _]) rfl)) ?_
    refine DrG.st (i := 5) [] rfl rfl rfl (by kernel_rfl) (OKG.o rfl (OK1.load (Has.t rfl) (i := 0) rfl ty32 rfl (Ss' := [_, _]) rfl)) ?_
    refine DrG.st (i := 6) [20, 21] rfl rfl rfl (by kernel_rfl) (OKG.o rfl (OK1.eq (OK1.call (zint_Mul (by simp only [Int.toNat_natCast]; omega) (by rw [val_words]; omega)) (.cons (Has.t rfl) (.cons (Has.t rfl) .nil))) ((show isZ _ = isZ (cf (vals xs) i * zv m ys ^ i) from isZ_eq (by rw [cf_vals, zv_nf]; rfl))))) ?_
    refine DrG.fin (n := 7) mixed (by kernel_rfl) (by kernel_rfl) (by kernel_rfl) ?_
    refine Ops.cv (Cv.wk (.cons (t := 0) (Has.t rfl) (.cons (t := 3) (Has.t rfl) (.cons (t := 4) (Has.t rfl) (.cons (t := 5) (Has.t rfl) (.cons (t := 6) (Has.t rfl) (.cons (t := 7) (Has.t rfl) (.cons (t := 10) (Has.t rfl) (.cons (t := 11) (Has.t rfl) (.cons (t := 12) (Has.t rfl) (.cons (t := 13) (Has.t rfl) (.cons (t := 16) (Has.t rfl) (.cons (t := 17) (Has.t rfl) (.cons (t := 18) (Has.t rfl) (.cons (t := 19) (Has.t rfl) (.cons (t := 20) (Has.t rfl) (.cons (t := 21) (Has.t rfl) (.cons (t := 22) (Has.t rfl) .nil)))))))))))))))))) ?_
    refine st (OK1.eq (OK1.call (zint_Add (by rw [val_words]; omega) (by rw [val_words]; omega)) (.cons (Has.t rfl) (.cons (Has.t rfl) .nil))) ((show isZ _ = isZ (esum (vals xs) (zv m ys) i + cf (vals xs) i * zv m ys ^ i) from isZ_eq (by simp only [zv_nf])))) rfl ?_
    refine Ops.store (Has.t rfl) (Has.t rfl) (i := 1) rfl ty32 rfl rfl (Ss' := [_, _]) rfl (M' := [_, (some _, cellM [_, _]), _, _]) rfl ?_
    refine nl ?_
    refine At.thn (hK9 _ _ ?_); clear hK9
    refine Tri.region ?_
    refine st (OK1.load (Has.t rfl) (i := 0) rfl ty32 rfl (Ss' := [_, _]) rfl) rfl ?_
    refine st (OK1.load (Has.t rfl) (i := 3) rfl ty32 rfl (Ss' := [_, _]) rfl) rfl ?_
    refine st (OK1.eq (OK1.call (zint_Mul (by rw [val_words]; omega) (by omega)) (.cons (Has.t rfl) (.cons (Has.t rfl) .nil))) ((show isZ _ = isZ (zv m ys ^ i * zv m ys) from isZ_eq (by simp only [zv_nf])))) rfl ?_
    refine Ops.store (Has.t rfl) (Has.t rfl) (i := 0) rfl ty32 rfl rfl (Ss' := [_, _]) rfl (M' := [(some _, cellM [_, _]), _, _, _]) rfl ?_
    refine nl ?_
    refine At.bln ?_
    refine At.thn (hK8 _ _ ?_); clear hK8
    refine Tri.region ?_
    refine st (OK1.mv (Has.t rfl)) rfl ?_
    refine st (OK1.addI (Has.t rfl) (Has.cI 1 rfl) (by first | omega | assumption) (by first | omega | assumption)) rfl ?_
    refine st (OK1.as (Has.t rfl)) rfl ?_
    refine nl ?_
    refine At.thn ?_
    refine hK5 (⟨i + 1, by omega⟩) _ _ ?_ (Cv.mem (.cons (t := 7) (Has.t' rfl ?_) (.cons (t := 0) (Has.t rfl) (.cons (t := 3) (Has.t rfl) (.cons (t := 4) (Has.t rfl) (.cons (t := 5) (Has.t rfl) (.cons (t := 6) (Has.t rfl) .nil)))))) ?_)
    · show xs.length - (i + 1) < xs.length - i; omega
    · exact isI_eq (by omega)
    · exact zM_eq (Int.pow_succ _ _).symm (zM_eq rfl rfl)
  · have hc1 := BP.f hc1
    refine Tri.exit ?_
    refine At.the ?_
    refine At.the ?_
    refine At.blh ?_
    refine At.thn (hK3 _ _ ?_); clear hK3
    refine Tri.cv (Cv.wk (.cons (t := 4) (Has.t rfl) (.cons (t := 5) (Has.t rfl) .nil))) ?_
    refine Tri.seq fun K10 hK10 => ?_
    refine Tri.region ?_
    refine st (OK1.load (Has.t rfl) (i := 1) rfl ty32 rfl (Ss' := [_, _]) rfl) rfl ?_
    refine Ops.store (Has.t rfl) (Has.t rfl) (i := 2) rfl ty32 rfl rfl (Ss' := [_, _]) rfl (M' := [_, _, (some _, cellM [_, _]), _]) rfl ?_
    refine nl ?_
    refine At.thn (hK10 _ _ ?_); clear hK10
    refine Tri.ret ?_
    refine rt1 (.inl rfl) Try.results31 rfl (.cell rfl (i := 2) rfl ty32 rfl ?_ .nil)
    all_goals (exact isZ_eq (by rw [peval_esum, hvx, show i = xs.length by omega]))
set_option maxHeartbeats 4000000 in
theorem ref10_Same {xs ys : List (Bool × List Nat)} {K L : Nat} (hx : Bd (vals xs) K) (hy : Bd (vals ys) L) (hK : K ≤ 400000000) (hL : L ≤ 400000000) (hn : xs.length ≤ 400000) (hm : ys.length ≤ 400000) : Ctr Try.prog 18 [SlK 2 zc xs, SlK 2 zc ys] (isB (decide (psub (vals xs) (vals ys) = []))) := by
  refine Ctr.intro Try.func18 rfl (by kernel_rfl) Try.ntmps18 rfl fun w0 F0 => ?_
  refine Tri.cv (Cv.wk (.cons (t := 0) (Has.t rfl) (.cons (t := 1) (Has.t rfl) .nil))) ?_
  refine Tri.fact (Has.lenLt (Has.t (t := 0) rfl)) fun lt0 => ?_
  refine Tri.fact (Has.lenLt (Has.t (t := 1) rfl)) fun lt1 => ?_
  have hvx := vals_len xs
  have hvy := vals_len ys
  
  refine Tri.seq fun K1 hK1 => ?_
  refine Tri.region ?_
  refine st (OK1.as (Has.cB false)) rfl ?_
  refine nl ?_
  refine At.thn (hK1 _ _ ?_); clear hK1
  refine Tri.seq fun K2 hK2 => ?_
  refine Tri.seq fun K3 hK3 => ?_
  refine Tri.region ?_
  refine st (OK1.as (Has.cI 0 rfl)) rfl ?_
  refine nl ?_
  refine At.thn (hK3 _ _ ?_); clear hK3
  refine Tri.block ?_
  refine Tri.loopF [0, 1] (fun (z : { i : Nat // i ≤ max xs.length ys.length ∧ ∀ j, j < i → cf (vals xs) j = cf (vals ys) j }) => match z with | ⟨i, hi⟩ => [(5, isI (i : Int))]) (fun M => fun (z : { i : Nat // i ≤ max xs.length ys.length ∧ ∀ j, j < i → cf (vals xs) j = cf (vals ys) j }) => match z with | ⟨i, hi⟩ => []) (fun (z : { i : Nat // i ≤ max xs.length ys.length ∧ ∀ j, j < i → cf (vals xs) j = cf (vals ys) j }) => match z with | ⟨i, hi⟩ => max xs.length ys.length - i) (⟨0, Nat.zero_le _, fun j h => absurd h (Nat.not_lt_zero _)⟩) (Cv.mem (.cons (t := 5) (Has.t' rfl ?_) (.cons (t := 0) (Has.t rfl) (.cons (t := 1) (Has.t rfl) .nil))) ?_) ?_
  · rfl
  · rfl
  rintro ⟨i, hi, hj⟩ K4 hK4
  refine Tri.cv (Cv.wk (.cons (t := 5) (Has.t rfl) (.cons (t := 0) (Has.t rfl) (.cons (t := 1) (Has.t rfl) .nil)))) ?_
  refine Tri.memEq (M' := []) rfl ?_
  refine Tri.seq fun K5 hK5 => ?_
  refine Tri.seq fun K6 hK6 => ?_
  refine Tri.region ?_
  refine st (OK1.mv (Has.t rfl)) rfl ?_
  refine st (OK1.mv (Has.t rfl)) rfl ?_
  refine st (OK1.len sl22 (Has.t rfl)) rfl ?_
  refine st (OK1.ltI (Has.t rfl) (Has.t rfl)) rfl ?_
  refine st (OK1.mv (Has.t rfl)) rfl ?_
  refine stF rfl rfl (fun hg => have hg' := BP.t hg; OK1.mv (Has.t rfl)) rfl ?_
  refine stF rfl rfl (fun hg => have hg' := BP.t hg; OK1.mv (Has.t rfl)) rfl ?_
  refine stF rfl rfl (fun hg => have hg' := BP.t hg; OK1.len sl22 (Has.g rfl hg)) rfl ?_
  refine stF rfl rfl (fun hg => have hg' := BP.t hg; OK1.ltI (Has.g rfl hg) (Has.g rfl hg)) rfl ?_
  refine st (OK1.pickOr (Has.t rfl) (fun h => Has.g rfl (ng h))) rfl ?_
  refine nl ?_
  refine At.thn (hK6 _ _ ?_); clear hK6
  refine Tri.cond (Has.t rfl) (fun hc1 => ?_) (fun hc1 => ?_)
  · have hc1 := BP.t hc1
    refine Tri.skip ?_
    refine At.thn (hK5 _ _ ?_); clear hK5
    refine Tri.seq fun K7 hK7 => ?_
    refine Tri.block ?_
    refine Tri.seq fun K8 hK8 => ?_
    refine Tri.region ?_
    refine st (OK1.mv (Has.t rfl)) rfl ?_
    refine st (OK1.mv (Has.t rfl)) rfl ?_
    refine st (OK1.call (ref10_at) (.cons (Has.t rfl) (.cons (Has.t rfl) .nil))) rfl ?_
    refine st (OK1.mv (Has.t rfl)) rfl ?_
    refine st (OK1.mv (Has.t rfl)) rfl ?_
    refine st (OK1.call (ref10_at) (.cons (Has.t rfl) (.cons (Has.t rfl) .nil))) rfl ?_
    refine st (OK1.eq (OK1.call (zint_Same (by have := hx.raw i; omega) (by have := hy.raw i; omega)) (.cons (Has.t rfl) (.cons (Has.t rfl) .nil))) ((show isB _ = isB (decide (cf (vals xs) i = cf (vals ys) i)) from isB_eq (by rw [cf_vals, cf_vals])))) rfl ?_
    refine st (OK1.not (Has.t rfl)) rfl ?_
    refine nl ?_
    refine At.thn (hK8 _ _ ?_); clear hK8
    refine Tri.cond (Has.t rfl) (fun hc2 => ?_) (fun hc2 => ?_)
    · have hc2 := BP.t hc2
      have hNe : ¬ cf (vals xs) i = cf (vals ys) i := (by simpa using hc2)
      refine Tri.seq fun K9 hK9 => ?_
      refine Tri.region ?_
      refine st (OK1.as (Has.cB false)) rfl ?_
      refine nl ?_
      refine At.thn (hK9 _ _ ?_); clear hK9
      refine Tri.ret ?_
      refine At.blr ?_
      refine At.thr ?_
      refine At.thr ?_
      refine At.blr ?_
      refine At.thr ?_
      refine rt1 (.inl rfl) Try.results18 rfl (.tmp (Has.t' rfl ?_) .nil)
      all_goals (exact isB_eq (same_not hNe).symm)
    · have hc2 := BP.f hc2
      have hEq : cf (vals xs) i = cf (vals ys) i := (by simpa using hc2)
      refine Tri.skip ?_
      refine At.bln ?_
      refine At.thn (hK7 _ _ ?_); clear hK7
      refine Tri.region ?_
      refine st (OK1.mv (Has.t rfl)) rfl ?_
      refine st (OK1.addI (Has.t rfl) (Has.cI 1 rfl) (by first | omega | assumption) (by first | omega | assumption)) rfl ?_
      refine st (OK1.as (Has.t rfl)) rfl ?_
      refine nl ?_
      refine At.thn ?_
      refine hK4 (⟨i + 1, by omega, fun j h => by rcases Nat.lt_or_ge j i with h2 | h2; exact hj j h2; rw [show j = i by omega]; exact hEq⟩) _ _ ?_ (Cv.mem (.cons (t := 5) (Has.t' rfl ?_) (.cons (t := 0) (Has.t rfl) (.cons (t := 1) (Has.t rfl) .nil))) ?_)
      · show max xs.length ys.length - (i + 1) < max xs.length ys.length - i; omega
      · exact isI_eq (by omega)
      · rfl
  · have hc1 := BP.f hc1
    refine Tri.exit ?_
    refine At.the ?_
    refine At.the ?_
    refine At.blh ?_
    refine At.thn (hK2 _ _ ?_); clear hK2
    refine Tri.cv (Cv.wk .nil) ?_
    refine Tri.seq fun K10 hK10 => ?_
    refine Tri.region ?_
    refine st (OK1.as (Has.cB true)) rfl ?_
    refine nl ?_
    refine At.thn (hK10 _ _ ?_); clear hK10
    refine Tri.ret ?_
    refine rt1 (.inl rfl) Try.results18 rfl (.tmp (Has.t' rfl ?_) .nil)
    all_goals (exact isB_eq (same_yes hj (by omega) (by omega)).symm)
set_option maxHeartbeats 4000000 in
theorem ref10_Few {xs : List (Bool × List Nat)} {n w : Int} : Ctr Try.prog 32 [SlK 2 zc xs, isI n, isI w] (isB (fewB xs n w)) := by
  refine Ctr.intro Try.func32 rfl (by kernel_rfl) Try.ntmps32 rfl fun w0 F0 => ?_
  refine Tri.cv (Cv.wk (.cons (t := 0) (Has.t rfl) (.cons (t := 1) (Has.t rfl) (.cons (t := 2) (Has.t rfl) .nil)))) ?_
  refine Tri.fact (Has.lenLt (Has.t (t := 0) rfl)) fun lt0 => ?_
  refine Tri.fact (Has.rngI (Has.t (t := 1) rfl)) fun lt1 => ?_
  refine Tri.fact (Has.rngI (Has.t (t := 2) rfl)) fun lt2 => ?_
  refine Tri.seq fun K1 hK1 => ?_
  refine Tri.region ?_
  refine st (OK1.as (Has.cB false)) rfl ?_
  refine nl ?_
  refine At.thn (hK1 _ _ ?_); clear hK1
  refine Tri.seq fun K2 hK2 => ?_
  refine Tri.seq fun K3 hK3 => ?_
  refine Tri.region ?_
  refine st (OK1.as (Has.cI 0 rfl)) rfl ?_
  refine nl ?_
  refine At.thn (hK3 _ _ ?_); clear hK3
  refine Tri.block ?_
  refine Tri.loopF [0, 1, 2] (fun (z : { i : Nat // i ≤ xs.length ∧ i ≤ 100 ∧ ∀ j, j < i → ((xs.getD j (false, [])).2.length : Int) ≤ w }) => match z with | ⟨i, hi⟩ => [(7, isI (i : Int))]) (fun M => fun (z : { i : Nat // i ≤ xs.length ∧ i ≤ 100 ∧ ∀ j, j < i → ((xs.getD j (false, [])).2.length : Int) ≤ w }) => match z with | ⟨i, hi⟩ => []) (fun (z : { i : Nat // i ≤ xs.length ∧ i ≤ 100 ∧ ∀ j, j < i → ((xs.getD j (false, [])).2.length : Int) ≤ w }) => match z with | ⟨i, hi⟩ => xs.length - i) (⟨0, Nat.zero_le _, by omega, fun j h => absurd h (Nat.not_lt_zero _)⟩) (Cv.mem (.cons (t := 7) (Has.t' rfl ?_) (.cons (t := 0) (Has.t rfl) (.cons (t := 1) (Has.t rfl) (.cons (t := 2) (Has.t rfl) .nil)))) ?_) ?_
  · rfl
  · rfl
  rintro ⟨i, hi, h1, hj⟩ K4 hK4
  refine Tri.cv (Cv.wk (.cons (t := 7) (Has.t rfl) (.cons (t := 0) (Has.t rfl) (.cons (t := 1) (Has.t rfl) (.cons (t := 2) (Has.t rfl) .nil))))) ?_
  refine Tri.memEq (M' := []) rfl ?_
  refine Tri.seq fun K5 hK5 => ?_
  refine Tri.seq fun K6 hK6 => ?_
  refine Tri.region ?_
  refine st (OK1.mv (Has.t rfl)) rfl ?_
  refine st (OK1.mv (Has.t rfl)) rfl ?_
  refine st (OK1.len sl22 (Has.t rfl)) rfl ?_
  refine st (OK1.ltI (Has.t rfl) (Has.t rfl)) rfl ?_
  refine st (OK1.mv (Has.t rfl)) rfl ?_
  refine stT rfl rfl (fun hg => have hg' := BP.t hg; OK1.mv (Has.t rfl)) rfl ?_
  refine stT rfl rfl (fun hg => have hg' := BP.t hg; OK1.ltI (Has.g rfl hg) (Has.cI 100 rfl)) rfl ?_
  refine st (OK1.pickAnd (Has.t rfl) (fun h => Has.g rfl h)) rfl ?_
  refine nl ?_
  refine At.thn (hK6 _ _ ?_); clear hK6
  refine Tri.cond (Has.t rfl) (fun hc1 => ?_) (fun hc1 => ?_)
  · have hc1 := BP.t hc1
    refine Tri.skip ?_
    refine At.thn (hK5 _ _ ?_); clear hK5
    refine Tri.seq fun K7 hK7 => ?_
    refine Tri.block ?_
    refine Tri.seq fun K8 hK8 => ?_
    refine Tri.region ?_
    refine st (OK1.mv (Has.t rfl)) rfl ?_
    refine st (OK1.mv (Has.t rfl)) rfl ?_
    refine st (OK1.ixK sl22 ty32 (Has.t rfl) (Has.t rfl) zc_len ⟨by omega, by omega⟩ (getD_some (d := (false, [])) (by first | omega | (simp only [Int.toNat_natCast, List.length_set]; omega)))) rfl ?_
    refine st (OK1.fieldAddrP (Has.t rfl) fld32_1 ty30 (Ss' := [_]) rfl) rfl ?_
    refine st (OK1.loadP1 (Has.t rfl) ty30) rfl ?_
    refine st (OK1.len sl30 (Has.t rfl)) rfl ?_
    refine st (OK1.mv (Has.t rfl)) rfl ?_
    refine st (OK1.gtI (Has.t rfl) (Has.t rfl)) rfl ?_
    refine nl ?_
    refine At.thn (hK8 _ _ ?_); clear hK8
    refine Tri.cond (Has.t rfl) (fun hc2 => ?_) (fun hc2 => ?_)
    · have hc2 := BP.t hc2
      have hNo : ¬ ((xs.getD i (false, [])).2.length : Int) ≤ w := (by simp only [Int.toNat_natCast] at hc2; omega)
      refine Tri.seq fun K9 hK9 => ?_
      refine Tri.region ?_
      refine st (OK1.as (Has.cB false)) rfl ?_
      refine nl ?_
      refine At.thn (hK9 _ _ ?_); clear hK9
      refine Tri.ret ?_
      refine At.blr ?_
      refine At.thr ?_
      refine At.thr ?_
      refine At.blr ?_
      refine At.thr ?_
      refine rt1 (.inl rfl) Try.results32 rfl (.tmp (Has.t' rfl ?_) .nil)
      all_goals (exact isB_eq (fewB_no (by omega) (by omega) hNo).symm)
    · have hc2 := BP.f hc2
      have hLe : ((xs.getD i (false, [])).2.length : Int) ≤ w := (by simp only [Int.toNat_natCast] at hc2; omega)
      refine Tri.skip ?_
      refine At.bln ?_
      refine At.thn (hK7 _ _ ?_); clear hK7
      refine Tri.region ?_
      refine st (OK1.mv (Has.t rfl)) rfl ?_
      refine st (OK1.addI (Has.t rfl) (Has.cI 1 rfl) (by first | omega | assumption) (by first | omega | assumption)) rfl ?_
      refine st (OK1.as (Has.t rfl)) rfl ?_
      refine nl ?_
      refine At.thn ?_
      refine hK4 (⟨i + 1, by omega, by omega, fun j h => by rcases Nat.lt_or_ge j i with h2 | h2; exact hj j h2; rw [show j = i by omega]; exact hLe⟩) _ _ ?_ (Cv.mem (.cons (t := 7) (Has.t' rfl ?_) (.cons (t := 0) (Has.t rfl) (.cons (t := 1) (Has.t rfl) (.cons (t := 2) (Has.t rfl) .nil)))) ?_)
      · show xs.length - (i + 1) < xs.length - i; omega
      · exact isI_eq (by omega)
      · rfl
  · have hc1 := BP.f hc1
    refine Tri.exit ?_
    refine At.the ?_
    refine At.the ?_
    refine At.blh ?_
    refine At.thn (hK2 _ _ ?_); clear hK2
    refine Tri.cv (Cv.wk (.cons (t := 0) (Has.t rfl) (.cons (t := 1) (Has.t rfl) .nil))) ?_
    refine Tri.seq fun K10 hK10 => ?_
    refine Tri.region ?_
    refine st (OK1.mv (Has.t rfl)) rfl ?_
    refine st (OK1.len sl22 (Has.t rfl)) rfl ?_
    refine st (OK1.mv (Has.t rfl)) rfl ?_
    refine st (OK1.leI (Has.t rfl) (Has.t rfl)) rfl ?_
    refine st (OK1.as (Has.t rfl)) rfl ?_
    refine nl ?_
    refine At.thn (hK10 _ _ ?_); clear hK10
    refine Tri.cv (Cv.wk (.cons (t := 6) (Has.t rfl) .nil)) ?_
    refine Tri.ret ?_
    refine rt1 (.inl rfl) Try.results32 rfl (.tmp (Has.t' rfl ?_) .nil)
    all_goals (exact isB_eq (fewB_yes (by omega) hj).symm)
set_option maxHeartbeats 4000000 in
theorem ref10_Normal {l : List Int} {K : Nat} (hx : Bd l K) (hK : K ≤ 400000000) : Ctr Try.prog 17 [isP l] (isB (decide (pnorm l = l))) := by
  refine Ctr.intro Try.func17 rfl (by kernel_rfl) Try.ntmps17 rfl fun w0 F0 => ?_
  refine Tri.cv (Cv.wk (.cons (t := 0) (Has.t rfl) .nil)) ?_
  have hll : (l.map nz).length = l.length := List.length_map _
  refine Tri.fact (Has.lenLt (Has.t (t := 0) rfl)) fun lt0 => ?_
  refine Tri.seq fun K1 hK1 => ?_
  refine Tri.region ?_
  refine st (OK1.as (Has.cB false)) rfl ?_
  refine nl ?_
  refine At.thn (hK1 _ _ ?_); clear hK1
  refine Tri.seq fun K2 hK2 => ?_
  refine Tri.seq fun K3 hK3 => ?_
  refine Tri.region ?_
  refine st (OK1.as (Has.cI 0 rfl)) rfl ?_
  refine nl ?_
  refine At.thn (hK3 _ _ ?_); clear hK3
  refine Tri.block ?_
  refine Tri.loopF [0] (fun (z : { i : Nat // i ≤ l.length }) => match z with | ⟨i, hi⟩ => [(3, isI (i : Int))]) (fun M => fun (z : { i : Nat // i ≤ l.length }) => match z with | ⟨i, hi⟩ => []) (fun (z : { i : Nat // i ≤ l.length }) => match z with | ⟨i, hi⟩ => l.length - i) (⟨0, Nat.zero_le _⟩) (Cv.mem (.cons (t := 3) (Has.t' rfl ?_) (.cons (t := 0) (Has.t rfl) .nil)) ?_) ?_
  · rfl
  · rfl
  rintro ⟨i, hi⟩ K4 hK4
  refine Tri.cv (Cv.wk (.cons (t := 3) (Has.t rfl) (.cons (t := 0) (Has.t rfl) .nil))) ?_
  refine Tri.memEq (M' := []) rfl ?_
  have hbi := hx i
  refine Tri.seq fun K5 hK5 => ?_
  refine Tri.seq fun K6 hK6 => ?_
  refine Tri.region ?_
  refine st (OK1.mv (Has.t rfl)) rfl ?_
  refine st (OK1.mv (Has.t rfl)) rfl ?_
  refine st (OK1.len sl22 (Has.t rfl)) rfl ?_
  refine st (OK1.ltI (Has.t rfl) (Has.t rfl)) rfl ?_
  refine nl ?_
  refine At.thn (hK6 _ _ ?_); clear hK6
  refine Tri.cond (Has.t rfl) (fun hc1 => ?_) (fun hc1 => ?_)
  · have hc1 := BP.t hc1
    refine Tri.skip ?_
    refine At.thn (hK5 _ _ ?_); clear hK5
    refine Tri.seq fun K7 hK7 => ?_
    refine Tri.block ?_
    refine Tri.seq fun K8 hK8 => ?_
    refine Tri.region ?_
    refine st (OK1.mv (Has.t rfl)) rfl ?_
    refine st (OK1.mv (Has.t rfl)) rfl ?_
    refine st (OK1.ixK sl22 ty32 (Has.t rfl) (Has.t rfl) zc_len ⟨by omega, by omega⟩ (getZ (i := i) (by omega))) rfl ?_
    refine st (OK1.fieldAddrP (Has.t rfl) fld32_1 ty30 (Ss' := [_]) rfl) rfl ?_
    refine st (OK1.eq (OK1.loadP1 (Has.t rfl) ty30) ((show isWords _ = isWords (words (cf l i).natAbs) from rfl))) rfl ?_
    refine st (OK1.len sl30 (Has.t rfl)) rfl ?_
    refine st (OK1.as (Has.t rfl)) rfl ?_
    refine nl ?_
    refine At.thn (hK8 _ _ ?_); clear hK8
    refine Tri.seq fun K9 hK9 => ?_
    refine Tri.region ?_
    refine st (OK1.mv (Has.t rfl)) rfl ?_
    refine st (OK1.gtI (Has.t rfl) (Has.cI 0 rfl)) rfl ?_
    refine st (OK1.mv (Has.t rfl)) rfl ?_
    refine stT rfl rfl (fun hg => have hg' := BP.t hg; OK1.mv (Has.t rfl)) rfl ?_
    refine stT rfl rfl (fun hg => have hg' := BP.t hg; OK1.mv (Has.t rfl)) rfl ?_
    refine stT rfl rfl (fun hg => have hg' := BP.t hg; OK1.ixK sl22 ty32 (Has.g rfl hg) (Has.g rfl hg) zc_len ⟨by omega, by omega⟩ (getZ (i := i) (by omega))) rfl ?_
    refine stT rfl rfl (fun hg => have hg' := BP.t hg; OK1.fieldAddrP (Has.g rfl hg) fld32_1 ty30 (Ss' := [_]) rfl) rfl ?_
    refine stT rfl rfl (fun hg => have hg' := BP.t hg; OK1.eq (OK1.loadP1 (Has.g rfl hg) ty30) ((show isWords _ = isWords (words (cf l i).natAbs) from rfl))) rfl ?_
    refine stT rfl rfl (fun hg => have hg' := BP.t hg; OK1.mv (Has.t rfl)) rfl ?_
    refine stT rfl rfl (fun hg => have hg' := BP.t hg; OK1.subI (Has.g rfl hg) (Has.cI 1 rfl) (by first | omega | assumption) (by first | omega | assumption)) rfl ?_
    refine stT rfl rfl (fun hg => have hg' := BP.t hg; OK1.ixP sl30 ty52 (Has.g rfl hg) (Has.g rfl hg) ⟨by omega, by omega⟩ (getD_some (d := 0) (by first | omega | (simp only [Int.toNat_natCast, List.length_set]; omega)))) rfl ?_
    refine stT rfl rfl (fun hg => have hg' := BP.t hg; OK1.eq (OK1.loadP1 (Has.g rfl hg) ty52) ((show isU _ = isU (dig (cf l i).natAbs ((List.length (words (cf l i).natAbs)) - 1)) from isU_eq (by rw [show (((List.length (words (cf l i).natAbs)) : Int) - 1).toNat = (List.length (words (cf l i).natAbs)) - 1 by omega, getD_words])))) rfl ?_
    refine stT rfl rfl (fun hg => have hg' := BP.t hg; OK1.eqU (Has.g rfl hg) (Has.cU 0 rfl)) rfl ?_
    refine st (OK1.pickAnd (Has.t rfl) (fun h => Has.g rfl h)) rfl ?_
    refine st (OK1.mv (Has.t rfl)) rfl ?_
    refine stF rfl rfl (fun hg => have hg' := BP.t hg; OK1.mv (Has.t rfl)) rfl ?_
    refine stF rfl rfl (fun hg => have hg' := BP.t hg; OK1.eqI (Has.g rfl hg) (Has.cI 0 rfl)) rfl ?_
    refine stF rfl rfl (fun hg => have hg' := BP.t hg; OK1.mv (Has.g rfl hg)) rfl ?_
    refine stGT rfl rfl (fun hg => have hg' := BP.t hg; OK1.mv (Has.t rfl)) rfl ?_
    refine stGT rfl rfl (fun hg => have hg' := BP.t hg; OK1.mv (Has.t rfl)) rfl ?_
    refine stGT rfl rfl (fun hg => have hg' := BP.t hg; OK1.ixK sl22 ty32 (Has.g rfl hg) (Has.g rfl hg) zc_len ⟨by omega, by omega⟩ (getZ (i := i) (by omega))) rfl ?_
    refine stGT rfl rfl (fun hg => have hg' := BP.t hg; OK1.fieldAddrP (Has.g rfl hg) fld32_0 ty4 (Ss' := [_, _]) rfl) rfl ?_
    refine stGT rfl rfl (fun hg => have hg' := BP.t hg; OK1.eq (OK1.loadP1 (Has.g rfl hg) ty4) ((show isB _ = isB (decide (cf l i < 0)) from rfl))) rfl ?_
    refine stF rfl rfl (fun hg => have hg' := BP.t hg; OK1.pickAnd (Has.g rfl hg) (fun h => Has.g rfl (ga hg h))) rfl ?_
    refine st (OK1.pickOr (Has.t rfl) (fun h => Has.g rfl (ng h))) rfl ?_
    refine nl ?_
    refine At.thn (hK9 _ _ ?_); clear hK9
    refine Tri.cond (Has.t rfl) (fun hc2 => ?_) (fun hc2 => ?_)
    · have hc2 := BP.t hc2
      exact (normal_dead hc2).elim
    · have hc2 := BP.f hc2
      refine Tri.skip ?_
      refine At.bln ?_
      refine At.thn (hK7 _ _ ?_); clear hK7
      refine Tri.region ?_
      refine st (OK1.mv (Has.t rfl)) rfl ?_
      refine st (OK1.addI (Has.t rfl) (Has.cI 1 rfl) (by first | omega | assumption) (by first | omega | assumption)) rfl ?_
      refine st (OK1.as (Has.t rfl)) rfl ?_
      refine nl ?_
      refine At.thn ?_
      refine hK4 (⟨i + 1, by omega⟩) _ _ ?_ (Cv.mem (.cons (t := 3) (Has.t' rfl ?_) (.cons (t := 0) (Has.t rfl) .nil)) ?_)
      · show l.length - (i + 1) < l.length - i; omega
      · exact isI_eq (by omega)
      · rfl
  · have hc1 := BP.f hc1
    refine Tri.exit ?_
    refine At.the ?_
    refine At.the ?_
    refine At.blh ?_
    refine At.thn (hK2 _ _ ?_); clear hK2
    refine Tri.cv (Cv.wk (.cons (t := 0) (Has.t rfl) .nil)) ?_
    refine Tri.seq fun K10 hK10 => ?_
    refine Tri.region ?_
    refine st (OK1.mv (Has.t rfl)) rfl ?_
    refine st (OK1.len sl22 (Has.t rfl)) rfl ?_
    refine st (OK1.eqI (Has.t rfl) (Has.cI 0 rfl)) rfl ?_
    refine st (OK1.mv (Has.t rfl)) rfl ?_
    refine stF rfl rfl (fun hg => have hg' := BP.t hg; OK1.mv (Has.t rfl)) rfl ?_
    refine stF rfl rfl (fun hg => have hg' := BP.t hg; OK1.mv (Has.t rfl)) rfl ?_
    refine stF rfl rfl (fun hg => have hg' := BP.t hg; OK1.len sl22 (Has.g rfl hg)) rfl ?_
    refine stF rfl rfl (fun hg => have hg' := BP.t hg; OK1.subI (Has.g rfl hg) (Has.cI 1 rfl) (by first | omega | assumption) (by first | omega | assumption)) rfl ?_
    refine stF rfl rfl (fun hg => have hg' := BP.t hg; OK1.ixK sl22 ty32 (Has.g rfl hg) (Has.g rfl hg) zc_len ⟨by omega, by omega⟩ (getD_some (d := (false, [])) (by first | omega | (simp only [Int.toNat_natCast, List.length_set]; omega)))) rfl ?_
    refine stF rfl rfl (fun hg => have hg' := BP.t hg; OK1.loadP (Has.g rfl hg) ty32 rfl (Ss' := [_, _]) rfl) rfl ?_
    refine stF rfl rfl (fun hg => have hg' := BP.t hg; OK1.eq (OK1.call (zint_Sign (by rw [getD_nz, val_words]; have := hx ((l.map nz).length - 1 : Int).toNat; omega)) (.cons (Has.g rfl hg) .nil)) ((show isI _ = isI (sgn (cf l (l.length - 1))) from isI_eq (by rw [getD_nz, zv_nz]; congr 2; omega)))) rfl ?_
    refine stF rfl rfl (fun hg => have hg' := BP.t hg; OK1.neI (Has.g rfl hg) (Has.cI 0 rfl)) rfl ?_
    refine st (OK1.pickOr (Has.t rfl) (fun h => Has.g rfl (ng h))) rfl ?_
    refine st (OK1.as (Has.t rfl)) rfl ?_
    refine nl ?_
    refine At.thn (hK10 _ _ ?_); clear hK10
    refine Tri.cv (Cv.wk (.cons (t := 2) (Has.t rfl) .nil)) ?_
    refine Tri.ret ?_
    refine rt1 (.inl rfl) Try.results17 rfl (.tmp (Has.t' rfl ?_) .nil)
    all_goals (exact isB_eq (normal_end _))
set_option maxHeartbeats 4000000 in
theorem ref10_Is {l : List Int} {ys : List (Bool × List Nat)} {K L : Nat} (hx : Bd l K) (hy : Bd (vals ys) L) (hK : K ≤ 400000000) (hL : L ≤ 400000000) (hn : l.length ≤ 400000) (hm : ys.length ≤ 400000) : Ctr Try.prog 25 [isP l, SlK 2 zc ys] (isB (isB2 l (vals ys))) := by
  refine Ctr.intro Try.func25 rfl (by kernel_rfl) Try.ntmps25 rfl fun w0 F0 => ?_
  refine Tri.cv (Cv.wk (.cons (t := 0) (Has.t rfl) (.cons (t := 1) (Has.t rfl) .nil))) ?_
  refine Tri.seq fun K1 hK1 => ?_
  refine Tri.region ?_
  refine st (OK1.as (Has.cB false)) rfl ?_
  refine nl ?_
  refine At.thn (hK1 _ _ ?_); clear hK1
  refine Tri.seq fun K2 hK2 => ?_
  refine Tri.region ?_
  refine st (OK1.mv (Has.t rfl)) rfl ?_
  refine st (OK1.call (ref10_Normal hx hK) (.cons (Has.t rfl) .nil)) rfl ?_
  refine st (OK1.mv (Has.t rfl)) rfl ?_
  refine stT rfl rfl (fun hg => have hg' := BP.t hg; OK1.mv (Has.t rfl)) rfl ?_
  refine stT rfl rfl (fun hg => have hg' := BP.t hg; OK1.mv (Has.t rfl)) rfl ?_
  refine stT rfl rfl (fun hg => have hg' := BP.t hg; OK1.eq (OK1.call (ref10_Same (by rw [vals_nz]; exact hx) hy hK hL (by rw [List.length_map]; exact hn) hm) (.cons (Has.g rfl hg) (.cons (Has.g rfl hg) .nil))) ((by rw [vals_nz]))) rfl ?_
  refine st (OK1.pickAnd (Has.t rfl) (fun h => Has.g rfl h)) rfl ?_
  refine st (OK1.as (Has.t rfl)) rfl ?_
  refine nl ?_
  refine At.thn (hK2 _ _ ?_); clear hK2
  refine Tri.cv (Cv.wk (.cons (t := 4) (Has.t rfl) .nil)) ?_
  refine Tri.ret ?_
  refine rt1 (.inl rfl) Try.results25 rfl (.tmp (Has.t' rfl ?_) .nil)
  all_goals (rfl)
end Go.Proofs.Ytehcoegofjmhfaa
/- Contracts: quotients of polynomials. -/
namespace Go.Proofs.Ytehcoegofjmhfaa
open Go.En Go.RowKit
set_option linter.unusedVariables false
set_option maxRecDepth 10000
open Go.Nt
open Go.Pz
set_option maxHeartbeats 4000000 in
theorem zpoly_Pseudo {xs ys : List (Bool × List Nat)} {K L : Nat} (hx : Bd (vals xs) K) (hy : Bd (vals ys) L) (hK : K + (xs.length + 2) * (L + 1) ≤ 400000000) (hn : xs.length ≤ 400000) (hm : ys.length ≤ 400000) : Ctr Try.prog 11 [SlK 2 zc xs, SlK 2 zc ys] (isTup [isP (psd (vals xs) (vals ys)).1, isP (psd (vals xs) (vals ys)).2, isB (decide (pnorm (vals ys) ≠ []))]) := by
  refine Ctr.intro Try.func11 rfl (by kernel_rfl) Try.ntmps11 rfl fun w0 F0 => ?_
  refine Tri.cv (Cv.wk (.cons (t := 0) (Has.t rfl) (.cons (t := 1) (Has.t rfl) .nil))) ?_
  refine Tri.fact (Has.lenLt (Has.t (t := 0) rfl)) fun lt0 => ?_
  refine Tri.fact (Has.lenLt (Has.t (t := 1) rfl)) fun lt1 => ?_
  obtain ⟨A, hA⟩ : ∃ A, A = pnorm (vals xs) := ⟨_, rfl⟩
  obtain ⟨B, hB⟩ : ∃ B, B = pnorm (vals ys) := ⟨_, rfl⟩
  have hAl : A.length ≤ xs.length := by rw [hA, ← vals_len xs]; exact norm_len _
  have hBl : B.length ≤ ys.length := by rw [hB, ← vals_len ys]; exact norm_len _
  have bA : Bd A K := by rw [hA]; exact hx.norm
  have bB : Bd B L := by rw [hB]; exact hy.norm
  have hAn : pnorm A = A := by rw [hA]; exact norm_norm _
  have hBn : pnorm B = B := by rw [hB]; exact norm_norm _
  have hAm : (A.map nz).length = A.length := List.length_map _
  have hBm : (B.map nz).length = B.length := List.length_map _
  have hM1 : (A.length + 1 - B.length + 1) * (L + 1) ≤ (xs.length + 2) * (L + 1) := Nat.mul_le_mul_right _ (by omega)
  have hM2 : (A.length + 1 - B.length + 1) * (L + 1) = (A.length + 1 - B.length) * (L + 1) + (L + 1) := Nat.succ_mul _ _
  refine Tri.seq fun K1 hK1 => ?_
  refine Tri.region ?_
  refine st (OK1.as (Has.cWK (k := 2) (fk := zc))) rfl ?_
  refine st (OK1.as (Has.cWK (k := 2) (fk := zc))) rfl ?_
  refine st (OK1.as (Has.cB false)) rfl ?_
  refine nl ?_
  refine At.thn (hK1 _ _ ?_); clear hK1
  refine Tri.seq fun K2 hK2 => ?_
  refine Tri.region ?_
  refine st (OK1.mv (Has.t rfl)) rfl ?_
  refine st (OK1.eq (OK1.call (zpoly_Norm hx (by omega) (by omega)) (.cons (Has.t rfl) .nil)) ((show isP (pnorm (vals xs)) = isP A from isP_eq hA.symm))) rfl ?_
  refine st (OK1.mv (Has.t rfl)) rfl ?_
  refine st (OK1.eq (OK1.call (zpoly_Norm hy (by omega) (by omega)) (.cons (Has.t rfl) .nil)) ((show isP (pnorm (vals ys)) = isP B from isP_eq hB.symm))) rfl ?_
  refine st (OK1.as (Has.t rfl)) rfl ?_
  refine st (OK1.as (Has.t rfl)) rfl ?_
  refine nl ?_
  refine At.thn (hK2 _ _ ?_); clear hK2
  refine Tri.seq fun K3 hK3 => ?_
  refine Tri.seq fun K4 hK4 => ?_
  refine Tri.region ?_
  refine st (OK1.mv (Has.t rfl)) rfl ?_
  refine st (OK1.len sl23 (Has.t rfl)) rfl ?_
  refine st (OK1.eqI (Has.t rfl) (Has.cI 0 rfl)) rfl ?_
  refine nl ?_
  refine At.thn (hK4 _ _ ?_); clear hK4
  refine Tri.cv (Cv.wk (.cons (t := 0) (Has.t rfl) (.cons (t := 1) (Has.t rfl) (.cons (t := 4) (Has.t rfl) (.cons (t := 5) (Has.t rfl) (.cons (t := 6) (Has.t rfl) (.cons (t := 17) (Has.t rfl) .nil))))))) ?_
  refine Tri.cond (Has.t rfl) (fun hc1 => ?_) (fun hc1 => ?_)
  · have hc1 := BP.t hc1
    have HE := hc1
    refine Tri.seq fun K5 hK5 => ?_
    refine Tri.region ?_
    refine st (OK1.as (Has.cWK (k := 2) (fk := zc))) rfl ?_
    refine st (OK1.as (Has.cWK (k := 2) (fk := zc))) rfl ?_
    refine st (OK1.as (Has.cB false)) rfl ?_
    refine nl ?_
    refine At.thn (hK5 _ _ ?_); clear hK5
    refine Tri.ret ?_
    refine At.thr ?_
    refine rtN (.inl rfl) Try.results11 rfl rfl (.tmp (Has.t' rfl ?_) (.tmp (Has.t' rfl ?_) (.tmp (Has.t' rfl ?_) .nil)))
    · exact isP_nil (by unfold psd; rw [if_pos (by rw [← hB]; exact List.eq_nil_of_length_eq_zero (by omega))])
    · exact isP_nil (by unfold psd; rw [if_pos (by rw [← hB]; exact List.eq_nil_of_length_eq_zero (by omega))])
    · exact isB_eq (decide_eq_false (by rw [← hB]; exact fun h => h (List.eq_nil_of_length_eq_zero (by omega)))).symm
  · have hc1 := BP.f hc1
    have HE := hc1
    rw [hBm] at HE
    have hB0 : 0 < B.length := Nat.pos_of_ne_zero (by omega)
    refine Tri.skip ?_
    refine At.thn (hK3 _ _ ?_); clear hK3
    refine Tri.seq fun K6 hK6 => ?_
    refine Tri.region ?_
    refine st (OK1.mv (Has.t rfl)) rfl ?_
    refine st (OK1.mv (Has.t rfl)) rfl ?_
    refine st (OK1.len sl23 (Has.t rfl)) rfl ?_
    refine st (OK1.subI (Has.t rfl) (Has.cI 1 rfl) (by first | omega | assumption) (by first | omega | assumption)) rfl ?_
    refine st (OK1.ixK sl23 ty32 (Has.t rfl) (Has.t rfl) zc_len ⟨by omega, by omega⟩ (getD_some (d := (false, [])) (by first | omega | (simp only [Int.toNat_natCast, List.length_set]; omega)))) rfl ?_
    refine st (OK1.eq (OK1.loadP (Has.t rfl) ty32 rfl (Ss' := [_, _]) rfl) ((zc_eq (q := nz (cf B (B.length - 1))) (by rw [getD_nz]; congr 2; omega)))) rfl ?_
    refine Ops.alloc [isB false, SlM isU []] zero32 (fun _ _ => ⟨rfl, nilM _ _, trivial⟩) rfl fun b1 => ?_
    refine Ops.store (Has.t rfl) (Has.t rfl) (i := 0) rfl ty32 rfl rfl (Ss' := [_, _]) rfl (M' := [(some _, cellM [_, _])]) rfl ?_
    refine nl ?_
    refine At.thn (hK6 _ _ ?_); clear hK6
    refine Tri.cv (Cv.wk (.cons (t := 0) (Has.t rfl) (.cons (t := 1) (Has.t rfl) (.cons (t := 4) (Has.t rfl) (.cons (t := 5) (Has.t rfl) (.cons (t := 6) (Has.t rfl) (.cons (t := 7) (Has.t rfl) .nil))))))) ?_
    refine Tri.seq fun K7 hK7 => ?_
    refine Tri.region ?_
    refine st (OK1.as (Has.cWK (k := 2) (fk := zc))) rfl ?_
    refine nl ?_
    refine At.thn (hK7 _ _ ?_); clear hK7
    refine Tri.seq fun K8 hK8 => ?_
    refine Tri.seq fun K9 hK9 => ?_
    refine Tri.region ?_
    refine st (OK1.mv (Has.t rfl)) rfl ?_
    refine st (OK1.len sl23 (Has.t rfl)) rfl ?_
    refine st (OK1.mv (Has.t rfl)) rfl ?_
    refine st (OK1.len sl23 (Has.t rfl)) rfl ?_
    refine st (OK1.subI (Has.t rfl) (Has.t rfl) (by first | omega | assumption) (by first | omega | assumption)) rfl ?_
    refine st (OK1.as (Has.t rfl)) rfl ?_
    refine nl ?_
    refine At.thn (hK9 _ _ ?_); clear hK9
    refine Tri.cv (Cv.wk (.cons (t := 0) (Has.t rfl) (.cons (t := 1) (Has.t rfl) (.cons (t := 4) (Has.t rfl) (.cons (t := 5) (Has.t rfl) (.cons (t := 6) (Has.t rfl) (.cons (t := 7) (Has.t rfl) (.cons (t := 8) (Has.t rfl) (.cons (t := 9) (Has.t rfl) .nil))))))))) ?_
    refine Tri.block ?_
    refine Tri.loopF [1, 4, 5, 6, 7] (fun (z : { z : Nat × List Int × List Int // PsI (cf B (B.length - 1)) B A K L (A.length + 1 - B.length) z.1 z.2.1 z.2.2 }) => match z with | ⟨(m, q, a), hI⟩ => [(0, isP a), (8, isP q), (9, isI ((m : Int) - 1 - ((B.length - (A.length + 1) : Nat) : Int)))]) (fun M => fun (z : { z : Nat × List Int × List Int // PsI (cf B (B.length - 1)) B A K L (A.length + 1 - B.length) z.1 z.2.1 z.2.2 }) => match z with | ⟨(m, q, a), hI⟩ => [zM b1 (cf B (B.length - 1))]) (fun (z : { z : Nat × List Int × List Int // PsI (cf B (B.length - 1)) B A K L (A.length + 1 - B.length) z.1 z.2.1 z.2.2 }) => match z with | ⟨(m, q, a), hI⟩ => m) (⟨(A.length + 1 - B.length, [], A), PsI.start bA hAn⟩) (Cv.mem (.cons (t := 0) (Has.t' rfl ?_) (.cons (t := 8) (Has.t' rfl ?_) (.cons (t := 9) (Has.t' rfl ?_) (.cons (t := 1) (Has.t rfl) (.cons (t := 4) (Has.t rfl) (.cons (t := 5) (Has.t rfl) (.cons (t := 6) (Has.t rfl) (.cons (t := 7) (Has.t rfl) .nil)))))))) ?_) ?_
    · rfl
    · rfl
    · exact isI_eq (by omega)
    · rfl
    rintro ⟨⟨m, q, a⟩, hI⟩ K10 hK10
    refine Tri.cv (Cv.wk (.cons (t := 0) (Has.t rfl) (.cons (t := 8) (Has.t rfl) (.cons (t := 9) (Has.t rfl) (.cons (t := 1) (Has.t rfl) (.cons (t := 4) (Has.t rfl) (.cons (t := 5) (Has.t rfl) (.cons (t := 6) (Has.t rfl) (.cons (t := 7) (Has.t rfl) .nil))))))))) ?_
    refine Tri.memEq (M' := [zM b1 (cf B (B.length - 1))]) rfl ?_
    simp only [] at hI
    obtain ⟨hb1, hb2⟩ := hI.bnd
    have hle := hI.le
    refine Tri.seq fun K11 hK11 => ?_
    refine Tri.seq fun K12 hK12 => ?_
    refine Tri.region ?_
    refine st (OK1.mv (Has.t rfl)) rfl ?_
    refine st (OK1.geI (Has.t rfl) (Has.cI 0 rfl)) rfl ?_
    refine nl ?_
    refine At.thn (hK12 _ _ ?_); clear hK12
    refine Tri.cond (Has.t rfl) (fun hc2 => ?_) (fun hc2 => ?_)
    · have hc2 := BP.t hc2
      obtain ⟨n, rfl⟩ : ∃ n, m = n + 1 := ⟨m - 1, by omega⟩
      refine Tri.skip ?_
      refine At.thn (hK11 _ _ ?_); clear hK11
      refine Tri.seq fun K13 hK13 => ?_
      refine Tri.block ?_
      refine Tri.seq fun K14 hK14 => ?_
      refine Tri.region ?_
      refine st (OK1.mv (Has.t rfl)) rfl ?_
      refine st (OK1.eq (OK1.mv (Has.t rfl)) ((show isI _ = isI (n : Int) from isI_eq (by omega)))) rfl ?_
      refine st (OK1.mv (Has.t rfl)) rfl ?_
      refine st (OK1.len sl23 (Has.t rfl)) rfl ?_
      refine st (OK1.addI (Has.t rfl) (Has.t rfl) (by first | omega | assumption) (by first | omega | assumption)) rfl ?_
      refine st (OK1.eq (OK1.subI (Has.t rfl) (Has.cI 1 rfl) (by first | omega | assumption) (by first | omega | assumption)) ((show isI _ = isI ((n + B.length - 1 : Nat) : Int) from isI_eq (by omega)))) rfl ?_
      refine st (OK1.eq (OK1.call (zpoly_at) (.cons (Has.t rfl) (.cons (Has.t rfl) .nil))) ((zc_eq (q := nz (cf a (n + B.length - 1))) (by rw [getD_nz])))) rfl ?_
      refine Ops.alloc [isB false, SlM isU []] zero32 (fun _ _ => ⟨rfl, nilM _ _, trivial⟩) rfl fun b2 => ?_
      refine Ops.store (Has.t rfl) (Has.t rfl) (i := 0) rfl ty32 rfl rfl (Ss' := [_, _]) rfl (M' := [(some _, cellM [_, _]), _]) rfl ?_
      refine nl ?_
      refine At.thn (hK14 _ _ ?_); clear hK14
      refine Tri.seq fun K15 hK15 => ?_
      refine Tri.dr ?_
      refine DrG.st (i := 0) [] rfl rfl rfl (by kernel_rfl) (OKG.o rfl (OK1.mv (Has.t rfl))) ?_
      refine DrG.st (i := 1) [] rfl rfl rfl (by kernel_rfl) (OKG.o rfl (OK1.load (Has.t rfl) (i := 1) rfl ty32 rfl (Ss' := [_, _]) rfl)) ?_
      refine DrG.st (i := 2) [40, 41] rfl rfl rfl (by kernel_rfl) (OKG.o rfl (OK1.eq (OK1.call (zpoly_Scale (L := L) (by rw [vals_nz]; exact hb1) (by rw [val_words]; exact bB _) (by omega) (by rw [List.length_map]; have := hI.lq; omega)) (.cons (Has.t rfl) (.cons (Has.t rfl) .nil))) (by (try simp only [getD_nz]); (try simp only [vals_nz]); (try simp only [zv_nz]); (try simp only [zv_nf]); rfl))) ?_
      refine DrG.st (i := 3) [] rfl rfl rfl (by kernel_rfl) (OKG.o rfl (OK1.load (Has.t rfl) (i := 0) rfl ty32 rfl (Ss' := [_, _]) rfl)) ?_
      refine DrG.st (i := 4) [43] rfl rfl rfl (by kernel_rfl) (OKG.o rfl (OK1.buildS [isB false, SlM isU []] sl23 ty32 zero32 (fun _ _ => ⟨rfl, nilM _ _, trivial⟩) rfl rfl (.cons (Has.t rfl) rfl rfl rfl .nil) rfl (S := isP [cf a (n + B.length - 1)]) rfl)) ?_
      refine DrG.st (i := 5) [] rfl rfl rfl (by kernel_rfl) (OKG.o rfl (OK1.eq (OK1.mv (Has.t rfl)) ((show isI _ = isI (n : Int) from isI_eq (by omega))))) ?_
      refine DrG.fin (n := 6) mixed (by kernel_rfl) (by kernel_rfl) (by kernel_rfl) ?_
      refine Ops.cv (Cv.wk (.cons (t := 1) (Has.t rfl) (.cons (t := 4) (Has.t rfl) (.cons (t := 5) (Has.t rfl) (.cons (t := 6) (Has.t rfl) (.cons (t := 7) (Has.t rfl) (.cons (t := 0) (Has.t rfl) (.cons (t := 8) (Has.t rfl) (.cons (t := 9) (Has.t rfl) (.cons (t := 29) (Has.t rfl) (.cons (t := 30) (Has.t rfl) (.cons (t := 33) (Has.t rfl) (.cons (t := 34) (Has.t rfl) (.cons (t := 35) (Has.t rfl) (.cons (t := 36) (Has.t rfl) (.cons (t := 37) (Has.t rfl) (.cons (t := 38) (Has.t rfl) (.cons (t := 39) (Has.t rfl) (.cons (t := 10) (Has.t rfl) (.cons (t := 40) (Has.t rfl) (.cons (t := 41) (Has.t rfl) (.cons (t := 42) (Has.t rfl) (.cons (t := 43) (Has.t rfl) (.cons (t := 44) (Has.t rfl) (.cons (t := 45) (Has.t rfl) .nil))))))))))))))))))))))))) ?_
      refine st (OK1.call (zpoly_shifted (l := [cf a (n + B.length - 1)]) (n := n) (by simp only [List.length_cons, List.length_nil]; omega)) (.cons (Has.t rfl) (.cons (Has.t rfl) .nil))) rfl ?_
      refine st (OK1.eq (OK1.call (zpoly_Add (K := K + (A.length + 1 - B.length) * (L + 1) + L) (by rw [vals_nz]; exact hb1.scale (bB _)) (by rw [vals_nz]; exact ((Bd.one (hb2 _)).shift _).mono (by omega)) (by omega) (by rw [List.length_map]; have := scale_len q (cf B (B.length - 1)); have := hI.lq; omega) (by rw [List.length_map, Go.Pz.shift_len]; simp only [List.length_cons, List.length_nil]; omega)) (.cons (Has.t rfl) (.cons (Has.t rfl) .nil))) (by (try simp only [getD_nz]); (try simp only [vals_nz]); (try simp only [zv_nz]); (try simp only [zv_nf]); rfl)) rfl ?_
      refine st (OK1.as (Has.t rfl)) rfl ?_
      refine nl ?_
      refine At.thn (hK15 _ _ ?_); clear hK15
      refine Tri.dr ?_
      refine DrG.st (i := 0) [] rfl rfl rfl (by kernel_rfl) (OKG.o rfl (OK1.mv (Has.t rfl))) ?_
      refine DrG.st (i := 1) [] rfl rfl rfl (by kernel_rfl) (OKG.o rfl (OK1.load (Has.t rfl) (i := 1) rfl ty32 rfl (Ss' := [_, _]) rfl)) ?_
      refine DrG.st (i := 2) [48, 49] rfl rfl rfl (by kernel_rfl) (OKG.o rfl (OK1.eq (OK1.call (zpoly_Scale (L := L) (by rw [vals_nz]; exact hb2) (by rw [val_words]; exact bB _) (by omega) (by rw [List.length_map]; have := hI.la; omega)) (.cons (Has.t rfl) (.cons (Has.t rfl) .nil))) (by (try simp only [getD_nz]); (try simp only [vals_nz]); (try simp only [zv_nz]); (try simp only [zv_nf]); rfl))) ?_
      refine DrG.st (i := 3) [] rfl rfl rfl (by kernel_rfl) (OKG.o rfl (OK1.mv (Has.t rfl))) ?_
      refine DrG.st (i := 4) [] rfl rfl rfl (by kernel_rfl) (OKG.o rfl (OK1.load (Has.t rfl) (i := 0) rfl ty32 rfl (Ss' := [_, _]) rfl)) ?_
      refine DrG.st (i := 5) [51, 52] rfl rfl rfl (by kernel_rfl) (OKG.o rfl (OK1.eq (OK1.call (zpoly_Scale (by rw [vals_nz]; exact bB) (by rw [val_words]; exact hb2 _) (by omega) (by rw [List.length_map]; omega)) (.cons (Has.t rfl) (.cons (Has.t rfl) .nil))) (by (try simp only [getD_nz]); (try simp only [vals_nz]); (try simp only [zv_nz]); (try simp only [zv_nf]); rfl))) ?_
      refine DrG.st (i := 6) [] rfl rfl rfl (by kernel_rfl) (OKG.o rfl (OK1.eq (OK1.mv (Has.t rfl)) ((show isI _ = isI (n : Int) from isI_eq (by omega))))) ?_
      refine DrG.fin (n := 7) mixed (by kernel_rfl) (by kernel_rfl) (by kernel_rfl) ?_
      refine Ops.cv (Cv.wk (.cons (t := 1) (Has.t rfl) (.cons (t := 4) (Has.t rfl) (.cons (t := 5) (Has.t rfl) (.cons (t := 6) (Has.t rfl) (.cons (t := 7) (Has.t rfl) (.cons (t := 0) (Has.t rfl) (.cons (t := 8) (Has.t rfl) (.cons (t := 9) (Has.t rfl) (.cons (t := 29) (Has.t rfl) (.cons (t := 30) (Has.t rfl) (.cons (t := 33) (Has.t rfl) (.cons (t := 34) (Has.t rfl) (.cons (t := 35) (Has.t rfl) (.cons (t := 36) (Has.t rfl) (.cons (t := 37) (Has.t rfl) (.cons (t := 38) (Has.t rfl) (.cons (t := 39) (Has.t rfl) (.cons (t := 10) (Has.t rfl) (.cons (t := 40) (Has.t rfl) (.cons (t := 41) (Has.t rfl) (.cons (t := 42) (Has.t rfl) (.cons (t := 43) (Has.t rfl) (.cons (t := 44) (Has.t rfl) (.cons (t := 45) (Has.t rfl) (.cons (t := 46) (Has.t rfl) (.cons (t := 47) (Has.t rfl) (.cons (t := 48) (Has.t rfl) (.cons (t := 49) (Has.t rfl) (.cons (t := 50) (Has.t rfl) (.cons (t := 51) (Has.t rfl) (.cons (t := 52) (Has.t rfl) (.cons (t := 53) (Has.t rfl) (.cons (t := 54) (Has.t rfl) .nil)))))))))))))))))))))))))))))))))) ?_
      refine st (OK1.call (zpoly_shifted (l := pscale B (cf a (n + B.length - 1))) (n := n) (by have := scale_len B (cf a (n + B.length - 1)); omega)) (.cons (Has.t rfl) (.cons (Has.t rfl) .nil))) rfl ?_
      refine st (OK1.eq (OK1.call (zpoly_Sub (K := K + (A.length + 1 - B.length) * (L + 1) + L) (by rw [vals_nz]; exact hb2.scale (bB _)) (by rw [vals_nz]; exact ((bB.scale (hb2 _)).shift _).mono (by omega)) (by omega) (by rw [List.length_map]; have := scale_len a (cf B (B.length - 1)); have := hI.la; omega) (by rw [List.length_map, Go.Pz.shift_len]; have := scale_len B (cf a (n + B.length - 1)); omega)) (.cons (Has.t rfl) (.cons (Has.t rfl) .nil))) (by (try simp only [getD_nz]); (try simp only [vals_nz]); (try simp only [zv_nz]); (try simp only [zv_nf]); rfl)) rfl ?_
      refine st (OK1.as (Has.t rfl)) rfl ?_
      refine nl ?_
      refine At.bln ?_
      refine At.thn (hK13 _ _ ?_); clear hK13
      refine Tri.region ?_
      refine st (OK1.mv (Has.t rfl)) rfl ?_
      refine st (OK1.subI (Has.t rfl) (Has.cI 1 rfl) (by first | omega | assumption) (by first | omega | assumption)) rfl ?_
      refine st (OK1.as (Has.t rfl)) rfl ?_
      refine nl ?_
      refine At.thn ?_
      refine hK10 (⟨(n, _, _), hI.step (bB _) bB (by omega)⟩) _ _ ?_ (Cv.trans (Cv.drop ((.cons _ (.cons_cons _ .slnil)))) (Cv.mem (.cons (t := 0) (Has.t' rfl ?_) (.cons (t := 8) (Has.t' rfl ?_) (.cons (t := 9) (Has.t' rfl ?_) (.cons (t := 1) (Has.t rfl) (.cons (t := 4) (Has.t rfl) (.cons (t := 5) (Has.t rfl) (.cons (t := 6) (Has.t rfl) (.cons (t := 7) (Has.t rfl) .nil)))))))) ?_))
      · show n < n + 1; omega
      · rfl
      · rfl
      · exact isI_eq (by omega)
      · rfl
    · have hc2 := BP.f hc2
      have HZ : m = 0 := (by omega)
      refine Tri.exit ?_
      refine At.the ?_
      refine At.the ?_
      refine At.blh ?_
      refine At.thn (hK8 _ _ ?_); clear hK8
      refine Tri.cv (Cv.wk (.cons (t := 4) (Has.t rfl) (.cons (t := 5) (Has.t rfl) (.cons (t := 6) (Has.t rfl) (.cons (t := 0) (Has.t rfl) (.cons (t := 8) (Has.t rfl) .nil)))))) ?_
      refine Tri.seq fun K16 hK16 => ?_
      refine Tri.region ?_
      refine st (OK1.mv (Has.t rfl)) rfl ?_
      refine st (OK1.eq (OK1.call (zpoly_Norm (by rw [vals_nz]; exact hb1) (by omega) (by rw [List.length_map]; have := hI.lq; omega)) (.cons (Has.t rfl) .nil)) (by (try simp only [getD_nz]); (try simp only [vals_nz]); (try simp only [zv_nz]); (try simp only [zv_nf]); rfl)) rfl ?_
      refine st (OK1.mv (Has.t rfl)) rfl ?_
      refine st (OK1.as (Has.t rfl)) rfl ?_
      refine st (OK1.as (Has.t rfl)) rfl ?_
      refine st (OK1.as (Has.cB true)) rfl ?_
      refine nl ?_
      refine At.thn (hK16 _ _ ?_); clear hK16
      refine Tri.cv (Cv.wk (.cons (t := 4) (Has.t rfl) (.cons (t := 5) (Has.t rfl) (.cons (t := 6) (Has.t rfl) .nil)))) ?_
      refine Tri.ret ?_
      obtain ⟨hd1, hd2⟩ := PsI.done (a := vals xs) (b := vals ys) (K := K) (L := L) (m0 := A.length + 1 - B.length) (by rw [← hB]; exact List.length_pos_iff.1 hB0) (by rw [← hA, ← hB]) (by rw [← hA, ← hB]; exact HZ ▸ hI)
      refine rtN (.inl rfl) Try.results11 rfl rfl (.tmp (Has.t' rfl ?_) (.tmp (Has.t' rfl ?_) (.tmp (Has.t' rfl ?_) .nil)))
      · exact isP_eq hd1
      · exact isP_eq hd2
      · exact isB_eq (decide_eq_true (by rw [← hB]; exact List.length_pos_iff.1 hB0)).symm
set_option maxHeartbeats 4000000 in
theorem zpoly_Exact {xs ys : List (Bool × List Nat)} {K L : Nat} (hx : Bd (vals xs) K) (hy : Bd (vals ys) L) (hK : K + (xs.length + 2) * (L + 1) ≤ 400000000) (hn : xs.length ≤ 400000) (hm : ys.length ≤ 400000) : Ctr Try.prog 33 [SlK 2 zc xs, SlK 2 zc ys] (isTup [isP ((exq (vals xs) (vals ys)).getD []), isB (exq (vals xs) (vals ys)).isSome]) := by
  refine Ctr.intro Try.func33 rfl (by kernel_rfl) Try.ntmps33 rfl fun w0 F0 => ?_
  refine Tri.cv (Cv.wk (.cons (t := 0) (Has.t rfl) (.cons (t := 1) (Has.t rfl) .nil))) ?_
  refine Tri.fact (Has.lenLt (Has.t (t := 0) rfl)) fun lt0 => ?_
  refine Tri.fact (Has.lenLt (Has.t (t := 1) rfl)) fun lt1 => ?_
  obtain ⟨A, hA⟩ : ∃ A, A = pnorm (vals xs) := ⟨_, rfl⟩
  obtain ⟨B, hB⟩ : ∃ B, B = pnorm (vals ys) := ⟨_, rfl⟩
  have hAl : A.length ≤ xs.length := by rw [hA, ← vals_len xs]; exact norm_len _
  have hBl : B.length ≤ ys.length := by rw [hB, ← vals_len ys]; exact norm_len _
  have bA : Bd A K := by rw [hA]; exact hx.norm
  have bB : Bd B L := by rw [hB]; exact hy.norm
  have hAn : pnorm A = A := by rw [hA]; exact norm_norm _
  have hBn : pnorm B = B := by rw [hB]; exact norm_norm _
  have hAm : (A.map nz).length = A.length := List.length_map _
  have hBm : (B.map nz).length = B.length := List.length_map _
  have hM1 : (A.length + 1 - B.length + 1) * (L + 1) ≤ (xs.length + 2) * (L + 1) := Nat.mul_le_mul_right _ (by omega)
  have hM2 : (A.length + 1 - B.length + 1) * (L + 1) = (A.length + 1 - B.length) * (L + 1) + (L + 1) := Nat.succ_mul _ _
  refine Tri.seq fun K1 hK1 => ?_
  refine Tri.region ?_
  refine st (OK1.as (Has.cWK (k := 2) (fk := zc))) rfl ?_
  refine st (OK1.as (Has.cB false)) rfl ?_
  refine nl ?_
  refine At.thn (hK1 _ _ ?_); clear hK1
  refine Tri.seq fun K2 hK2 => ?_
  refine Tri.region ?_
  refine st (OK1.mv (Has.t rfl)) rfl ?_
  refine st (OK1.eq (OK1.call (zpoly_Norm hx (by omega) (by omega)) (.cons (Has.t rfl) .nil)) ((show isP (pnorm (vals xs)) = isP A from isP_eq hA.symm))) rfl ?_
  refine st (OK1.mv (Has.t rfl)) rfl ?_
  refine st (OK1.eq (OK1.call (zpoly_Norm hy (by omega) (by omega)) (.cons (Has.t rfl) .nil)) ((show isP (pnorm (vals ys)) = isP B from isP_eq hB.symm))) rfl ?_
  refine st (OK1.as (Has.t rfl)) rfl ?_
  refine st (OK1.as (Has.t rfl)) rfl ?_
  refine nl ?_
  refine At.thn (hK2 _ _ ?_); clear hK2
  refine Tri.seq fun K3 hK3 => ?_
  refine Tri.seq fun K4 hK4 => ?_
  refine Tri.region ?_
  refine st (OK1.mv (Has.t rfl)) rfl ?_
  refine st (OK1.len sl23 (Has.t rfl)) rfl ?_
  refine st (OK1.eqI (Has.t rfl) (Has.cI 0 rfl)) rfl ?_
  refine nl ?_
  refine At.thn (hK4 _ _ ?_); clear hK4
  refine Tri.cv (Cv.wk (.cons (t := 0) (Has.t rfl) (.cons (t := 1) (Has.t rfl) (.cons (t := 4) (Has.t rfl) (.cons (t := 5) (Has.t rfl) (.cons (t := 16) (Has.t rfl) .nil)))))) ?_
  refine Tri.cond (Has.t rfl) (fun hc1 => ?_) (fun hc1 => ?_)
  · have hc1 := BP.t hc1
    have HE := hc1
    refine Tri.seq fun K5 hK5 => ?_
    refine Tri.region ?_
    refine st (OK1.as (Has.cWK (k := 2) (fk := zc))) rfl ?_
    refine st (OK1.as (Has.cB false)) rfl ?_
    refine nl ?_
    refine At.thn (hK5 _ _ ?_); clear hK5
    refine Tri.ret ?_
    refine At.thr ?_
    refine rtN (.inl rfl) Try.results33 rfl rfl (.tmp (Has.t' rfl ?_) (.tmp (Has.t' rfl ?_) .nil))
    · exact isP_nil (by rw [exq_nil (by rw [← hB]; exact List.eq_nil_of_length_eq_zero (by omega))]; rfl)
    · exact isB_eq (by rw [exq_nil (by rw [← hB]; exact List.eq_nil_of_length_eq_zero (by omega))]; rfl)
  · have hc1 := BP.f hc1
    have HE := hc1
    rw [hBm] at HE
    have hB0 : 0 < B.length := Nat.pos_of_ne_zero (by omega)
    have hBv : pnorm (vals ys) ≠ [] := by rw [← hB]; exact List.length_pos_iff.1 hB0
    have hld : cf B (B.length - 1) ≠ 0 := by rw [hB]; exact lead_ne hBv
    refine Tri.skip ?_
    refine At.thn (hK3 _ _ ?_); clear hK3
    refine Tri.seq fun K6 hK6 => ?_
    refine Tri.region ?_
    refine st (OK1.mv (Has.t rfl)) rfl ?_
    refine st (OK1.len sl23 (Has.t rfl)) rfl ?_
    refine st (OK1.mv (Has.t rfl)) rfl ?_
    refine st (OK1.len sl23 (Has.t rfl)) rfl ?_
    refine st (OK1.subI (Has.t rfl) (Has.t rfl) (by first | omega | assumption) (by first | omega | assumption)) rfl ?_
    refine st (OK1.addI (Has.t rfl) (Has.cI 1 rfl) (by first | omega | assumption) (by first | omega | assumption)) rfl ?_
    refine st (OK1.eq (OK1.maxI (Has.t rfl) (Has.cI 0 rfl)) ((show isI _ = isI ((A.length + 1 - B.length : Nat) : Int) from isI_eq (by split <;> omega)))) rfl ?_
    refine Ops.makeK (fk := zc) (u := (false, [])) (n := A.length + 1 - B.length) (c := A.length + 1 - B.length) sl23 ty32 zero32 (fun _ _ => ⟨rfl, nilM _ _, trivial⟩) zc_len by32 (Has.t' rfl rfl) (Has.t' rfl rfl) ⟨by omega, by omega⟩ rfl fun b1 => ?_
    refine st (OK1.as (Has.t rfl)) rfl ?_
    refine nl ?_
    refine At.thn (hK6 _ _ ?_); clear hK6
    refine Tri.cv (Cv.wk (.cons (t := 0) (Has.t rfl) (.cons (t := 1) (Has.t rfl) (.cons (t := 4) (Has.t rfl) (.cons (t := 5) (Has.t rfl) (.cons (t := 6) (Has.t rfl) .nil)))))) ?_
    refine Tri.seq fun K7 hK7 => ?_
    refine Tri.seq fun K8 hK8 => ?_
    refine Tri.region ?_
    refine st (OK1.mv (Has.t rfl)) rfl ?_
    refine st (OK1.len sl23 (Has.t rfl)) rfl ?_
    refine st (OK1.subI (Has.t rfl) (Has.cI 1 rfl) (by first | omega | assumption) (by first | omega | assumption)) rfl ?_
    refine st (OK1.as (Has.t rfl)) rfl ?_
    refine nl ?_
    refine At.thn (hK8 _ _ ?_); clear hK8
    refine Tri.block ?_
    refine Tri.loopF [1, 6] (fun (z : { z : Nat × List Int × List Int // ExI (cf B (B.length - 1)) B A K L (A.length + 1 - B.length) z.1 z.2.1 z.2.2 }) => match z with | ⟨(m, q, a), hI⟩ => [(0, isP a), (7, isI ((m : Int) - 1))]) (fun M => fun (z : { z : Nat × List Int × List Int // ExI (cf B (B.length - 1)) B A K L (A.length + 1 - B.length) z.1 z.2.1 z.2.2 }) => match z with | ⟨(m, q, a), hI⟩ => [(some b1, cellM ((List.replicate m (false, []) ++ q.map nz).flatMap zc))]) (fun (z : { z : Nat × List Int × List Int // ExI (cf B (B.length - 1)) B A K L (A.length + 1 - B.length) z.1 z.2.1 z.2.2 }) => match z with | ⟨(m, q, a), hI⟩ => m) (⟨(A.length + 1 - B.length, [], A), ExI.start bA hAn⟩) (Cv.mem (.cons (t := 0) (Has.t' rfl ?_) (.cons (t := 7) (Has.t' rfl ?_) (.cons (t := 1) (Has.t rfl) (.cons (t := 6) (Has.t rfl) .nil)))) ?_) ?_
    · rfl
    · rfl
    · exact memZ_eq (by rw [List.map_nil, List.append_nil])
    rintro ⟨⟨m, q, a⟩, hI⟩ K9 hK9
    refine Tri.cv (Cv.wk (.cons (t := 0) (Has.t rfl) (.cons (t := 7) (Has.t rfl) (.cons (t := 1) (Has.t rfl) (.cons (t := 6) (Has.t rfl) .nil))))) ?_
    refine Tri.memEq (M' := [(some b1, cellM ((List.replicate m (false, []) ++ q.map nz).flatMap zc))]) rfl ?_
    simp only [] at hI
    have hbb := hI.bnd
    have hle := hI.le
    have hql : (q.map nz).length = q.length := List.length_map _
    have hlq := hI.lq
    refine Tri.seq fun K10 hK10 => ?_
    refine Tri.seq fun K11 hK11 => ?_
    refine Tri.region ?_
    refine st (OK1.mv (Has.t rfl)) rfl ?_
    refine st (OK1.geI (Has.t rfl) (Has.cI 0 rfl)) rfl ?_
    refine nl ?_
    refine At.thn (hK11 _ _ ?_); clear hK11
    refine Tri.cond (Has.t rfl) (fun hc2 => ?_) (fun hc2 => ?_)
    · have hc2 := BP.t hc2
      obtain ⟨n, rfl⟩ : ∃ n, m = n + 1 := ⟨m - 1, by omega⟩
      refine Tri.skip ?_
      refine At.thn (hK10 _ _ ?_); clear hK10
      refine Tri.seq fun K12 hK12 => ?_
      refine Tri.block ?_
      refine Tri.seq fun K13 hK13 => ?_
      refine Tri.drh [true] (Ms := [_]) rfl ?_
      refine DrH.st (i := 0) [] rfl rfl rfl (by kernel_rfl) (OKG.o rfl (OK1.mv (Has.t rfl))) ?_
      refine DrH.st (i := 1) [] rfl rfl rfl (by kernel_rfl) (OKG.o rfl (OK1.eq (OK1.mv (Has.t rfl)) ((show isI _ = isI (n : Int) from isI_eq (by omega))))) ?_
      refine DrH.st (i := 2) [] rfl rfl rfl (by kernel_rfl) (OKG.o rfl (OK1.mv (Has.t rfl))) ?_
      refine DrH.st (i := 3) [35] rfl rfl rfl (by kernel_rfl) (OKG.o rfl (OK1.len sl23 (Has.t rfl))) ?_
      refine DrH.st (i := 4) [34, 36] rfl rfl rfl (by kernel_rfl) (OKG.o rfl (OK1.addI (Has.t rfl) (Has.t rfl) (by first | omega | assumption) (by first | omega | assumption))) ?_
      refine DrH.st (i := 5) [37] rfl rfl rfl (by kernel_rfl) (OKG.o rfl (OK1.eq (OK1.subI (Has.t rfl) (Has.cI 1 rfl) (by first | omega | assumption) (by first | omega | assumption)) ((show isI _ = isI ((n + B.length - 1 : Nat) : Int) from isI_eq (by omega))))) ?_
      refine DrH.st (i := 6) [33, 38] rfl rfl rfl (by kernel_rfl) (OKG.o rfl (OK1.eq (OK1.call (zpoly_at) (.cons (Has.t rfl) (.cons (Has.t rfl) .nil))) ((zc_eq (q := nz (cf a (n + B.length - 1))) (by rw [getD_nz]))))) ?_
      refine DrH.st (i := 7) [] rfl rfl rfl (by kernel_rfl) (OKG.o rfl (OK1.mv (Has.t rfl))) ?_
      refine DrH.st (i := 8) [] rfl rfl rfl (by kernel_rfl) (OKG.o rfl (OK1.mv (Has.t rfl))) ?_
      refine DrH.st (i := 9) [41] rfl rfl rfl (by kernel_rfl) (OKG.o rfl (OK1.len sl23 (Has.t rfl))) ?_
      refine DrH.st (i := 10) [42] rfl rfl rfl (by kernel_rfl) (OKG.o rfl (OK1.subI (Has.t rfl) (Has.cI 1 rfl) (by first | omega | assumption) (by first | omega | assumption))) ?_
      refine DrH.st (i := 11) [40, 43] rfl rfl rfl (by kernel_rfl) (OKG.o rfl (OK1.ixK sl23 ty32 (Has.t rfl) (Has.t rfl) zc_len ⟨by omega, by omega⟩ (getD_some (d := (false, [])) (by first | omega | (simp only [Int.toNat_natCast, List.length_set]; omega))))) ?_
      refine DrH.st (i := 12) [44] rfl rfl rfl (by kernel_rfl) (OKG.o rfl (OK1.eq (OK1.loadP (Has.t rfl) ty32 rfl (Ss' := [_, _]) rfl) ((zc_eq (q := nz (cf B (B.length - 1))) (by rw [getD_nz]; congr 2; omega))))) ?_
      refine DrH.st (i := 13) [39, 45] rfl rfl rfl (by kernel_rfl) (OKG.o rfl (OK1.eq (OK1.call (zint_Exact (by rw [val_words]; have := hbb (n + B.length - 1); omega) (by rw [val_words]; have := bB (B.length - 1); omega)) (.cons (Has.t rfl) (.cons (Has.t rfl) .nil))) ((exEq (zv_nf _) (zv_nf _))))) ?_
      refine DrH.st (i := 14) [46] rfl rfl rfl (by kernel_rfl) (OKG.o rfl (OK1.mv (Has.t rfl))) ?_
      refine DrH.st (i := 15) [32] rfl rfl rfl (by kernel_rfl) (OKG.o rfl (OK1.ext (Has.t rfl) rfl)) ?_
      refine DrH.st (i := 16) [32] rfl rfl rfl (by kernel_rfl) (OKG.o rfl (OK1.ext (Has.t rfl) rfl)) ?_
      refine DrH.als (n1 := 18) (ds := [8]) (zs := [[isB false, SlM isU []]]) rfl (.cons rfl rfl zero32 (fun _ _ => ⟨rfl, nilM _ _, trivial⟩) .nil) (.cons_cons _ .slnil) (Cs := [_]) rfl ?_
      refine DrN.new [47] 0 (Ss' := [_, _]) (Cs' := [cellM [_, _]]) rfl (by kernel_rfl) (by kernel_rfl) rfl rfl rfl (by kernel_rfl) rfl (Has.t rfl) ty32 rfl rfl rfl rfl ?_
      refine DrN.fin (n := 19) mixed rfl (by kernel_rfl) (by kernel_rfl) (by kernel_rfl) (fun bs hbs => ?_)
      obtain ⟨b2, rfl⟩ := len1 hbs
      refine Ops.memEq (M' := [_, _]) rfl ?_
      refine Ops.cv (Cv.wk (.cons (t := 1) (Has.t rfl) (.cons (t := 6) (Has.t rfl) (.cons (t := 0) (Has.t rfl) (.cons (t := 7) (Has.t rfl) (.cons (t := 28) (Has.t rfl) (.cons (t := 29) (Has.t rfl) (.cons (t := 33) (Has.t rfl) (.cons (t := 34) (Has.t rfl) (.cons (t := 35) (Has.t rfl) (.cons (t := 36) (Has.t rfl) (.cons (t := 37) (Has.t rfl) (.cons (t := 38) (Has.t rfl) (.cons (t := 39) (Has.t rfl) (.cons (t := 40) (Has.t rfl) (.cons (t := 41) (Has.t rfl) (.cons (t := 42) (Has.t rfl) (.cons (t := 43) (Has.t rfl) (.cons (t := 44) (Has.t rfl) (.cons (t := 45) (Has.t rfl) (.cons (t := 46) (Has.t rfl) (.cons (t := 32) (Has.t rfl) (.cons (t := 47) (Has.t rfl) (.cons (t := 48) (Has.t rfl) (.cons (t := 8) (Has.op rfl) .nil))))))))))))))))))))))))) ?_
      refine st (OK1.as (Has.t rfl)) rfl ?_
      refine nl ?_
      refine At.thn (hK13 _ _ ?_); clear hK13
      refine Tri.seq fun K14 hK14 => ?_
      refine Tri.seq fun K15 hK15 => ?_
      refine Tri.region ?_
      refine st (OK1.mv (Has.t rfl)) rfl ?_
      refine st (OK1.not (Has.t rfl)) rfl ?_
      refine nl ?_
      refine At.thn (hK15 _ _ ?_); clear hK15
      refine Tri.cond (Has.t rfl) (fun hc3 => ?_) (fun hc3 => ?_)
      · have hc3 := BP.t hc3
        have hno : exq (vals xs) (vals ys) = none := ExI.no (K := K) (L := L) (m0 := A.length + 1 - B.length) (n := n) (q := q) (r := a) hBv (by rw [← hA, ← hB]) (by rw [← hA, ← hB]; exact hI) (by rw [← hB]; intro h; simp [hld, h] at hc3)
        refine Tri.seq fun K16 hK16 => ?_
        refine Tri.region ?_
        refine st (OK1.as (Has.cWK (k := 2) (fk := zc))) rfl ?_
        refine st (OK1.as (Has.cB false)) rfl ?_
        refine nl ?_
        refine At.thn (hK16 _ _ ?_); clear hK16
        refine Tri.ret ?_
        refine At.thr ?_
        refine At.blr ?_
        refine At.thr ?_
        refine At.thr ?_
        refine At.blr ?_
        refine At.thr ?_
        refine rtN (.inl rfl) Try.results33 rfl rfl (.tmp (Has.t' rfl ?_) (.tmp (Has.t' rfl ?_) .nil))
        · exact isP_nil (by rw [hno]; rfl)
        · exact isB_eq (by rw [hno]; rfl)
      · have hc3 := BP.f hc3
        have hdv : (cf a (n + B.length - 1)).tmod (cf B (B.length - 1)) = 0 := (by simp at hc3; exact hc3.2)
        refine Tri.skip ?_
        refine At.thn (hK14 _ _ ?_); clear hK14
        refine Tri.seq fun K17 hK17 => ?_
        refine Tri.region ?_
        refine st (OK1.mv (Has.t rfl)) rfl ?_
        refine st (OK1.eq (OK1.mv (Has.t rfl)) ((show isI _ = isI (n : Int) from isI_eq (by omega)))) rfl ?_
        refine st (OK1.eq (OK1.load (Has.t rfl) (i := 0) rfl ty32 rfl (Ss' := [_, _]) rfl) ((show isZ (if cf B (B.length - 1) ≠ 0 ∧ (cf a (n + B.length - 1)).tmod (cf B (B.length - 1)) = 0 then (cf a (n + B.length - 1)).tdiv (cf B (B.length - 1)) else 0) = isZ ((cf a (n + B.length - 1)).tdiv (cf B (B.length - 1))) from isZ_eq (if_pos ⟨hld, hdv⟩)))) rfl ?_
        refine st (OK1.eq (OK1.ixWin sl23 ty32 (Has.t rfl) (Has.t rfl) ⟨by omega, by omega⟩) (isPtr_eq (by first | exact ixo0 | exact ixo2 | exact ixo1))) rfl ?_
        refine Ops.storeK (z := nz ((cf a (n + B.length - 1)).tdiv (cf B (B.length - 1)))) zc_len (Has.t rfl) (Has.t rfl) (i := 1) rfl ty32 (by rw [List.length_append, List.length_replicate]; show n < _; omega) (M' := [_, (_, _)]) rfl ?_
        refine nl ?_
        refine At.thn (hK17 _ _ ?_); clear hK17
        refine Tri.region ?_
        refine st (OK1.mv (Has.t rfl)) rfl ?_
        refine st (OK1.mv (Has.t rfl)) rfl ?_
        refine st (OK1.eq (OK1.load (Has.t rfl) (i := 0) rfl ty32 rfl (Ss' := [_, _]) rfl) ((show isZ (if cf B (B.length - 1) ≠ 0 ∧ (cf a (n + B.length - 1)).tmod (cf B (B.length - 1)) = 0 then (cf a (n + B.length - 1)).tdiv (cf B (B.length - 1)) else 0) = isZ ((cf a (n + B.length - 1)).tdiv (cf B (B.length - 1))) from isZ_eq (if_pos ⟨hld, hdv⟩)))) rfl ?_
        refine st (OK1.eq (OK1.call (zpoly_Scale (by rw [vals_nz]; exact bB) (by rw [val_words]; exact Nat.le_trans (nz_tdiv _ _) (hbb _)) (by omega) (by rw [List.length_map]; omega)) (.cons (Has.t rfl) (.cons (Has.t rfl) .nil))) (by (try simp only [getD_nz]); (try simp only [vals_nz]); (try simp only [zv_nz]); (try simp only [zv_nf]); rfl)) rfl ?_
        refine st (OK1.eq (OK1.mv (Has.t rfl)) ((show isI _ = isI (n : Int) from isI_eq (by omega)))) rfl ?_
        refine st (OK1.call (zpoly_shifted (l := pscale B ((cf a (n + B.length - 1)).tdiv (cf B (B.length - 1)))) (n := n) (by have := scale_len B ((cf a (n + B.length - 1)).tdiv (cf B (B.length - 1))); omega)) (.cons (Has.t rfl) (.cons (Has.t rfl) .nil))) rfl ?_
        refine st (OK1.eq (OK1.call (zpoly_Sub (K := K + (A.length + 1 - B.length) * (L + 1) + L) (by rw [vals_nz]; exact hbb.mono (by omega)) (by rw [vals_nz]; exact ((bB.scale (Nat.le_trans (nz_tdiv _ _) (hbb _))).shift _).mono (by omega)) (by omega) (by rw [List.length_map]; have := hI.la; omega) (by rw [List.length_map, Go.Pz.shift_len]; have := scale_len B ((cf a (n + B.length - 1)).tdiv (cf B (B.length - 1))); omega)) (.cons (Has.t rfl) (.cons (Has.t rfl) .nil))) (by (try simp only [getD_nz]); (try simp only [vals_nz]); (try simp only [zv_nz]); (try simp only [zv_nf]); rfl)) rfl ?_
        refine st (OK1.as (Has.t rfl)) rfl ?_
        refine nl ?_
        refine At.bln ?_
        refine At.thn (hK12 _ _ ?_); clear hK12
        refine Tri.region ?_
        refine st (OK1.mv (Has.t rfl)) rfl ?_
        refine st (OK1.subI (Has.t rfl) (Has.cI 1 rfl) (by first | omega | assumption) (by first | omega | assumption)) rfl ?_
        refine st (OK1.as (Has.t rfl)) rfl ?_
        refine nl ?_
        refine At.thn ?_
        refine hK9 (⟨(n, _, _), hI.step bB (by omega) hdv⟩) _ _ ?_ (Cv.trans (Cv.drop ((.cons _ (.cons_cons _ .slnil)))) (Cv.mem (.cons (t := 0) (Has.t' rfl ?_) (.cons (t := 7) (Has.t' rfl ?_) (.cons (t := 1) (Has.t rfl) (.cons (t := 6) (Has.t rfl) .nil)))) ?_))
        · show n < n + 1; omega
        · rfl
        · exact isI_eq (by omega)
        · exact memZ_eq (rep_set _ _ _ _)
    · have hc2 := BP.f hc2
      have HZ : m = 0 := (by omega)
      refine Tri.exit ?_
      refine At.the ?_
      refine At.the ?_
      refine At.blh ?_
      refine At.thn (hK7 _ _ ?_); clear hK7
      refine Tri.seq fun K18 hK18 => ?_
      refine Tri.seq fun K19 hK19 => ?_
      refine Tri.region ?_
      refine st (OK1.mv (Has.t rfl)) rfl ?_
      refine st (OK1.len sl23 (Has.t rfl)) rfl ?_
      refine st (OK1.gtI (Has.t rfl) (Has.cI 0 rfl)) rfl ?_
      refine nl ?_
      refine At.thn (hK19 _ _ ?_); clear hK19
      refine Tri.cv (Cv.wk (.cons (t := 6) (Has.t rfl) (.cons (t := 64) (Has.t rfl) .nil))) ?_
      refine Tri.cond (Has.t rfl) (fun hc4 => ?_) (fun hc4 => ?_)
      · have hc4 := BP.t hc4
        have hex := ExI.done (a := vals xs) (b := vals ys) (K := K) (L := L) (m0 := A.length + 1 - B.length) hBv (by rw [← hA, ← hB]) (by rw [← hA, ← hB]; exact HZ ▸ hI)
        rw [if_neg (by rintro rfl; simp at hc4)] at hex
        refine Tri.seq fun K20 hK20 => ?_
        refine Tri.region ?_
        refine st (OK1.as (Has.cWK (k := 2) (fk := zc))) rfl ?_
        refine st (OK1.as (Has.cB false)) rfl ?_
        refine nl ?_
        refine At.thn (hK20 _ _ ?_); clear hK20
        refine Tri.ret ?_
        refine At.thr ?_
        refine rtN (.inl rfl) Try.results33 rfl rfl (.tmp (Has.t' rfl ?_) (.tmp (Has.t' rfl ?_) .nil))
        · exact isP_nil (by rw [hex]; rfl)
        · exact isB_eq (by rw [hex]; rfl)
      · have hc4 := BP.f hc4
        have hex := ExI.done (a := vals xs) (b := vals ys) (K := K) (L := L) (m0 := A.length + 1 - B.length) hBv (by rw [← hA, ← hB]) (by rw [← hA, ← hB]; exact HZ ▸ hI)
        rw [if_pos (List.eq_nil_of_length_eq_zero (by rw [List.length_map] at hc4; omega))] at hex
        refine Tri.skip ?_
        refine At.thn (hK18 _ _ ?_); clear hK18
        refine Tri.seq fun K21 hK21 => ?_
        refine Tri.cv (Cv.freezeK (t := 6) (i := 0) (ys := q.map nz) zc_len rfl rfl rfl (by rw [List.length_append, List.length_replicate]; omega) (by subst HZ; rw [List.take_of_length_le (by rw [List.length_append, List.length_replicate]; omega)]; rfl)) ?_
        refine Tri.memEq (M' := []) rfl ?_
        refine Tri.cv (Cv.wk (.cons (t := 6) (Has.t rfl) (.cons (t := 64) (Has.t rfl) .nil))) ?_
        refine Tri.region ?_
        refine st (OK1.mv (Has.t rfl)) rfl ?_
        refine st (OK1.eq (OK1.call (zpoly_Norm (by rw [vals_nz]; exact hI.bq) (by omega) (by rw [List.length_map]; have := hI.lq; omega)) (.cons (Has.t rfl) .nil)) (by (try simp only [getD_nz]); (try simp only [vals_nz]); (try simp only [zv_nz]); (try simp only [zv_nf]); rfl)) rfl ?_
        refine st (OK1.as (Has.t rfl)) rfl ?_
        refine st (OK1.as (Has.cB true)) rfl ?_
        refine nl ?_
        refine At.thn (hK21 _ _ ?_); clear hK21
        refine Tri.ret ?_
        refine rtN (.inl rfl) Try.results33 rfl rfl (.tmp (Has.t' rfl ?_) (.tmp (Has.t' rfl ?_) .nil))
        · exact isP_eq (by rw [hex]; rfl)
        · exact isB_eq (by rw [hex]; rfl)
end Go.Proofs.Ytehcoegofjmhfaa
/- Contracts: greatest common divisors of polynomials. -/
namespace Go.Proofs.Ytehcoegofjmhfaa
open Go.En Go.RowKit
set_option linter.unusedVariables false
set_option maxRecDepth 10000
open Go.Nt
open Go.Pz
set_option maxHeartbeats 4000000 in
theorem zpoly_Gcd {xs ys : List (Bool × List Nat)} {K : Nat} (hx : Bd (vals xs) K) (hy : Bd (vals ys) K) (hC : 2 * (K + 1) * 3 ^ (max xs.length ys.length) ≤ 400000) (hn : xs.length ≤ 400000) (hm : ys.length ≤ 400000) : Ctr Try.prog 35 [SlK 2 zc xs, SlK 2 zc ys] (isP (pgcd (vals xs) (vals ys))) := by
  refine Ctr.intro Try.func35 rfl (by kernel_rfl) Try.ntmps35 rfl fun w0 F0 => ?_
  refine Tri.cv (Cv.wk (.cons (t := 0) (Has.t rfl) (.cons (t := 1) (Has.t rfl) .nil))) ?_
  refine Tri.fact (Has.lenLt (Has.t (t := 0) rfl)) fun lt0 => ?_
  refine Tri.fact (Has.lenLt (Has.t (t := 1) rfl)) fun lt1 => ?_
  obtain ⟨A, hA⟩ : ∃ A, A = prim (vals xs) := ⟨_, rfl⟩
  obtain ⟨B, hB⟩ : ∃ B, B = prim (vals ys) := ⟨_, rfl⟩
  have hAl : A.length ≤ xs.length := by rw [hA, prim_len, ← vals_len xs]; exact norm_len _
  have hBl : B.length ≤ ys.length := by rw [hB, prim_len, ← vals_len ys]; exact norm_len _
  have bA : Bd A K := by rw [hA]; exact hx.prim
  have bB : Bd B K := by rw [hB]; exact hy.prim
  have hc1 := cont_nw' hx
  have hc2 := cont_nw' hy
  have hcg := gcd_nw hc1 hc2
  have hC2 : 2 * (K + 1) * 3 ^ (max A.length B.length) ≤ 400000 := Nat.le_trans (Nat.mul_le_mul_left _ (Nat.pow_le_pow_right (by decide) (by omega))) hC
  have hK1 := Nat.mul_le_mul_left (2 * (K + 1)) (Nat.one_le_pow (max xs.length ys.length) 3 (by decide))
  refine Tri.seq fun K1 hK1 => ?_
  refine Tri.region ?_
  refine st (OK1.as (Has.cWK (k := 2) (fk := zc))) rfl ?_
  refine nl ?_
  refine At.thn (hK1 _ _ ?_); clear hK1
  refine Tri.seq fun K2 hK2 => ?_
  refine Tri.region ?_
  refine st (OK1.mv (Has.t rfl)) rfl ?_
  refine st (OK1.call (zpoly_Content hx (by omega)) (.cons (Has.t rfl) .nil)) rfl ?_
  refine st (OK1.mv (Has.t rfl)) rfl ?_
  refine st (OK1.call (zpoly_Content hy (by omega)) (.cons (Has.t rfl) .nil)) rfl ?_
  refine st (OK1.eq (OK1.call (zint_Gcd (by rw [val_words, Int.natAbs_natCast]; omega) (by rw [val_words, Int.natAbs_natCast]; omega)) (.cons (Has.t rfl) (.cons (Has.t rfl) .nil))) ((show isZ _ = isZ ((Nat.gcd (cont (vals xs)) (cont (vals ys)) : Nat) : Int) from isZ_eq (by rw [val_words, val_words, Int.natAbs_natCast, Int.natAbs_natCast])))) rfl ?_
  refine Ops.alloc [isB false, SlM isU []] zero32 (fun _ _ => ⟨rfl, nilM _ _, trivial⟩) rfl fun b1 => ?_
  refine Ops.store (Has.t rfl) (Has.t rfl) (i := 0) rfl ty32 rfl rfl (Ss' := [_, _]) rfl (M' := [(some _, cellM [_, _])]) rfl ?_
  refine nl ?_
  refine At.thn (hK2 _ _ ?_); clear hK2
  refine Tri.cv (Cv.wk (.cons (t := 0) (Has.t rfl) (.cons (t := 1) (Has.t rfl) (.cons (t := 4) (Has.t rfl) (.cons (t := 5) (Has.t rfl) .nil))))) ?_
  refine Tri.seq fun K3 hK3 => ?_
  refine Tri.region ?_
  refine st (OK1.mv (Has.t rfl)) rfl ?_
  refine st (OK1.eq (OK1.call (zpoly_Primitive hx (by omega) hn) (.cons (Has.t rfl) .nil)) ((show isP _ = isP A from isP_eq hA.symm))) rfl ?_
  refine st (OK1.mv (Has.t rfl)) rfl ?_
  refine st (OK1.eq (OK1.call (zpoly_Primitive hy (by omega) hm) (.cons (Has.t rfl) .nil)) ((show isP _ = isP B from isP_eq hB.symm))) rfl ?_
  refine st (OK1.as (Has.t rfl)) rfl ?_
  refine st (OK1.as (Has.t rfl)) rfl ?_
  refine nl ?_
  refine At.thn (hK3 _ _ ?_); clear hK3
  refine Tri.seq fun K4 hK4 => ?_
  refine Tri.block ?_
  refine Tri.loopF [4, 5] (fun (z : { z : Nat × List Int × List Int // GcI 400000 (pgcdGo B.length A B) z.1 z.2.1 z.2.2 }) => match z with | ⟨(m, a, b), hI⟩ => [(0, isP a), (1, isP b)]) (fun M => fun (z : { z : Nat × List Int × List Int // GcI 400000 (pgcdGo B.length A B) z.1 z.2.1 z.2.2 }) => match z with | ⟨(m, a, b), hI⟩ => [zM b1 ((Nat.gcd (cont (vals xs)) (cont (vals ys)) : Nat) : Int)]) (fun (z : { z : Nat × List Int × List Int // GcI 400000 (pgcdGo B.length A B) z.1 z.2.1 z.2.2 }) => match z with | ⟨(m, a, b), hI⟩ => m) (⟨(B.length, A, B), GcI.start bA bB (by rw [hA]; exact prim_norm _) (by rw [hB]; exact prim_norm _) hC2⟩) (Cv.mem (.cons (t := 0) (Has.t' rfl ?_) (.cons (t := 1) (Has.t' rfl ?_) (.cons (t := 4) (Has.t rfl) (.cons (t := 5) (Has.t rfl) .nil)))) ?_) ?_
  · rfl
  · rfl
  · rfl
  rintro ⟨⟨m, a, b⟩, hI⟩ K5 hK5
  refine Tri.cv (Cv.wk (.cons (t := 0) (Has.t rfl) (.cons (t := 1) (Has.t rfl) (.cons (t := 4) (Has.t rfl) (.cons (t := 5) (Has.t rfl) .nil))))) ?_
  refine Tri.memEq (M' := [zM b1 ((Nat.gcd (cont (vals xs)) (cont (vals ys)) : Nat) : Int)]) rfl ?_
  simp only [] at hI
  obtain ⟨k, ka, kb, hk1, hk2, hk3, hk4⟩ := hI.bnd
  refine Tri.seq fun K6 hK6 => ?_
  refine Tri.seq fun K7 hK7 => ?_
  refine Tri.region ?_
  refine st (OK1.mv (Has.t rfl)) rfl ?_
  refine st (OK1.len sl23 (Has.t rfl)) rfl ?_
  refine st (OK1.gtI (Has.t rfl) (Has.cI 0 rfl)) rfl ?_
  refine nl ?_
  refine At.thn (hK7 _ _ ?_); clear hK7
  refine Tri.cond (Has.t rfl) (fun hc1 => ?_) (fun hc1 => ?_)
  · have hc1 := BP.t hc1
    have hb : b ≠ [] := by rintro rfl; simp at hc1
    refine Tri.skip ?_
    refine At.thn (hK6 _ _ ?_); clear hK6
    refine Tri.block ?_
    refine Tri.seq fun K8 hK8 => ?_
    refine Tri.region ?_
    refine st (OK1.mv (Has.t rfl)) rfl ?_
    refine st (OK1.mv (Has.t rfl)) rfl ?_
    refine st (OK1.eq (OK1.call (zpoly_Pseudo (K := k) (L := k) (by rw [vals_nz]; exact ka) (by rw [vals_nz]; exact kb) (by rw [List.length_map]; omega) (by rw [List.length_map]; omega) (by rw [List.length_map]; omega)) (.cons (Has.t rfl) (.cons (Has.t rfl) .nil))) (by (try simp only [getD_nz]); (try simp only [vals_nz]); (try simp only [zv_nz]); (try simp only [zv_nf]); rfl)) rfl ?_
    refine st (OK1.mv (Has.t rfl)) rfl ?_
    refine st (OK1.ext (Has.t rfl) rfl) rfl ?_
    refine st (OK1.ext (Has.t rfl) rfl) rfl ?_
    refine st (OK1.ext (Has.t rfl) rfl) rfl ?_
    refine st (OK1.as (Has.t rfl)) rfl ?_
    refine st (OK1.as (Has.t rfl)) rfl ?_
    refine st (OK1.as (Has.t rfl)) rfl ?_
    refine nl ?_
    refine At.thn (hK8 _ _ ?_); clear hK8
    refine Tri.region ?_
    refine st (OK1.mv (Has.t rfl)) rfl ?_
    refine st (OK1.mv (Has.t rfl)) rfl ?_
    refine st (OK1.eq (OK1.call (zpoly_Primitive (K := k + (a.length + 1) * (k + 1)) (by rw [vals_nz]; exact (psd_bd ka kb).2) (by have : (a.length + 2) * (k + 1) = (a.length + 1) * (k + 1) + (k + 1) := Nat.succ_mul _ _; omega) (by rw [List.length_map]; have := psd_rest_len (a := a) (b := b) (by rw [hI.nb]; exact hb); rw [hI.nb] at this; omega)) (.cons (Has.t rfl) .nil)) (by (try simp only [getD_nz]); (try simp only [vals_nz]); (try simp only [zv_nz]); (try simp only [zv_nf]); rfl)) rfl ?_
    refine st (OK1.as (Has.t rfl)) rfl ?_
    refine st (OK1.as (Has.t rfl)) rfl ?_
    refine nl ?_
    refine At.bln ?_
    refine At.thn ?_
    refine hK5 (⟨(m - 1, _, _), (hI.step hb).2⟩) _ _ ?_ (Cv.mem (.cons (t := 0) (Has.t' rfl ?_) (.cons (t := 1) (Has.t' rfl ?_) (.cons (t := 4) (Has.t rfl) (.cons (t := 5) (Has.t rfl) .nil)))) ?_)
    · have := (hI.step hb).1; show m - 1 < m; omega
    · rfl
    · rfl
    · rfl
  · have hc1 := BP.f hc1
    have hb : b = [] := List.eq_nil_of_length_eq_zero (by rw [List.length_map] at hc1; omega)
    refine Tri.exit ?_
    refine At.the ?_
    refine At.the ?_
    refine At.blh ?_
    refine At.thn (hK4 _ _ ?_); clear hK4
    refine Tri.seq fun K9 hK9 => ?_
    refine Tri.region ?_
    refine st (OK1.mv (Has.t rfl)) rfl ?_
    refine st (OK1.load (Has.t rfl) (i := 0) rfl ty32 rfl (Ss' := [_, _]) rfl) rfl ?_
    refine st (OK1.eq (OK1.call (zpoly_Scale (K := k) (L := K) (by rw [vals_nz]; exact ka) (by rw [val_words, Int.natAbs_natCast]; exact hcg) (by omega) (by rw [List.length_map]; omega)) (.cons (Has.t rfl) (.cons (Has.t rfl) .nil))) (by (try simp only [getD_nz]); (try simp only [vals_nz]); (try simp only [zv_nz]); (try simp only [zv_nf]); rfl)) rfl ?_
    refine st (OK1.as (Has.t rfl)) rfl ?_
    refine nl ?_
    refine At.thn (hK9 _ _ ?_); clear hK9
    refine Tri.cv (Cv.wk (.cons (t := 4) (Has.t rfl) .nil)) ?_
    refine Tri.ret ?_
    refine rt1 (.inl rfl) Try.results35 rfl (.tmp (Has.t' rfl ?_) .nil)
    all_goals (exact isP_eq (by unfold pgcd; rw [← hA, ← hB, ← hI.go, hb, pgcdGo_nil]))
end Go.Proofs.Ytehcoegofjmhfaa
/- Contracts: what the laws of layer 10 share. -/
namespace Go.Proofs.Ytehcoegofjmhfaa
open Go.En Go.RowKit
set_option linter.unusedVariables false
set_option maxRecDepth 10000
open Go.Nt
open Go.Pz
theorem aw_n1 : pnorm [-6, 0, 6] = [-6, 0, 6] := by decide
theorem aw_n2 : pnorm [4, 4] = [4, 4] := by decide
theorem aw_gcd : pgcd [-6, 0, 6] [4, 4] = [2, 2] := by decide +kernel
theorem aw_b1 : Bd [-6, 0, 6] 1 := bd64 (by decide)
theorem aw_b2 : Bd [4, 4] 1 := bd64 (by decide)
theorem aw_2 : (List.length (words (2 : Int).natAbs)) ≤ 1 := nw_small' (by decide)
set_option maxHeartbeats 4000000 in
theorem law10_few {xs ys : List (Bool × List Nat)} {n w : Int} : Ctr Try.prog 10 [SlK 2 zc xs, SlK 2 zc ys, isI n, isI w] (isB (fewB xs n w && fewB ys n w)) := by
  refine Ctr.intro Try.func10 rfl (by kernel_rfl) Try.ntmps10 rfl fun w0 F0 => ?_
  refine Tri.cv (Cv.wk (.cons (t := 0) (Has.t rfl) (.cons (t := 1) (Has.t rfl) (.cons (t := 2) (Has.t rfl) (.cons (t := 3) (Has.t rfl) .nil))))) ?_
  refine Tri.fact (Has.lenLt (Has.t (t := 0) rfl)) fun lt0 => ?_
  refine Tri.fact (Has.lenLt (Has.t (t := 1) rfl)) fun lt1 => ?_
  refine Tri.fact (Has.rngI (Has.t (t := 2) rfl)) fun lt2 => ?_
  refine Tri.fact (Has.rngI (Has.t (t := 3) rfl)) fun lt3 => ?_
  refine Tri.seq fun K1 hK1 => ?_
  refine Tri.region ?_
  refine st (OK1.as (Has.cB false)) rfl ?_
  refine nl ?_
  refine At.thn (hK1 _ _ ?_); clear hK1
  refine Tri.seq fun K2 hK2 => ?_
  refine Tri.region ?_
  refine st (OK1.mv (Has.t rfl)) rfl ?_
  refine st (OK1.mv (Has.t rfl)) rfl ?_
  refine st (OK1.mv (Has.t rfl)) rfl ?_
  refine st (OK1.call (ref10_Few) (.cons (Has.t rfl) (.cons (Has.t rfl) (.cons (Has.t rfl) .nil)))) rfl ?_
  refine st (OK1.mv (Has.t rfl)) rfl ?_
  refine stT rfl rfl (fun hg => have hg' := BP.t hg; OK1.mv (Has.t rfl)) rfl ?_
  refine stT rfl rfl (fun hg => have hg' := BP.t hg; OK1.mv (Has.t rfl)) rfl ?_
  refine stT rfl rfl (fun hg => have hg' := BP.t hg; OK1.mv (Has.t rfl)) rfl ?_
  refine stT rfl rfl (fun hg => have hg' := BP.t hg; OK1.call (ref10_Few) (.cons (Has.g rfl hg) (.cons (Has.g rfl hg) (.cons (Has.g rfl hg) .nil)))) rfl ?_
  refine st (OK1.pickAnd (Has.t rfl) (fun h => Has.g rfl h)) rfl ?_
  refine st (OK1.as (Has.t rfl)) rfl ?_
  refine nl ?_
  refine At.thn (hK2 _ _ ?_); clear hK2
  refine Tri.cv (Cv.wk (.cons (t := 8) (Has.t rfl) .nil)) ?_
  refine Tri.ret ?_
  refine rt1 (.inl rfl) Try.results10 rfl (.tmp (Has.t' rfl ?_) .nil)
  all_goals (rfl)
set_option maxHeartbeats 4000000 in
theorem law10_awake  : Ctr Try.prog 9 [] (isB true) := by
  refine Ctr.intro Try.func9 rfl (by kernel_rfl) Try.ntmps9 rfl fun w0 F0 => ?_
  refine Tri.cv (Cv.wk .nil) ?_
  refine Tri.seq fun K1 hK1 => ?_
  refine Tri.region ?_
  refine st (OK1.as (Has.cB false)) rfl ?_
  refine nl ?_
  refine At.thn (hK1 _ _ ?_); clear hK1
  refine Tri.seq fun K2 hK2 => ?_
  refine Tri.region ?_
  refine st (OK1.buildS [isI 0, isI 0, isI 0] sl81 ty2 zero2 (fun _ _ => ⟨⟨rfl, by decide, by decide⟩, ⟨rfl, by decide, by decide⟩, ⟨rfl, by decide, by decide⟩, trivial⟩) rfl rfl (.cons (Has.cI (-6) rfl) rfl rfl rfl (.cons (Has.cI 0 rfl) rfl rfl rfl (.cons (Has.cI 6 rfl) rfl rfl rfl .nil))) rfl (S := SlM isI [_, _, _]) rfl) rfl ?_
  refine st (OK1.call (zpoly_Of (by decide)) (.cons (Has.t rfl) .nil)) rfl ?_
  refine st (OK1.buildS [isI 0, isI 0] sl81 ty2 zero2 (fun _ _ => ⟨⟨rfl, by decide, by decide⟩, ⟨rfl, by decide, by decide⟩, trivial⟩) rfl rfl (.cons (Has.cI 4 rfl) rfl rfl rfl (.cons (Has.cI 4 rfl) rfl rfl rfl .nil)) rfl (S := SlM isI [_, _]) rfl) rfl ?_
  refine st (OK1.call (zpoly_Of (by decide)) (.cons (Has.t rfl) .nil)) rfl ?_
  refine st (OK1.eq (OK1.call (zpoly_Gcd (K := 1) (by rw [vals_nz, aw_n1]; exact aw_b1) (by rw [vals_nz, aw_n2]; exact aw_b2) (by rw [aw_n1, aw_n2]; decide) (by rw [aw_n1]; decide) (by rw [aw_n2]; decide)) (.cons (Has.t rfl) (.cons (Has.t rfl) .nil))) ((show isP _ = isP [2, 2] from isP_eq (by rw [vals_nz, vals_nz, aw_n1, aw_n2]; exact aw_gcd)))) rfl ?_
  refine st (OK1.as (Has.t rfl)) rfl ?_
  refine nl ?_
  refine At.thn (hK2 _ _ ?_); clear hK2
  refine Tri.cv (Cv.wk (.cons (t := 0) (Has.t rfl) (.cons (t := 1) (Has.t rfl) .nil))) ?_
  refine Tri.seq fun K3 hK3 => ?_
  refine Tri.dr ?_
  refine DrG.st (i := 0) [] rfl rfl rfl (by kernel_rfl) (OKG.o rfl (OK1.mv (Has.t rfl))) ?_
  refine DrG.st (i := 1) [7] rfl rfl rfl (by kernel_rfl) (OKG.o rfl (OK1.len sl23 (Has.t rfl))) ?_
  refine DrG.st (i := 2) [8] rfl rfl rfl (by kernel_rfl) (OKG.o rfl (OK1.eqI (Has.t rfl) (Has.cI 2 rfl))) ?_
  refine DrG.st (i := 3) [9] rfl rfl rfl (by kernel_rfl) (OKG.o rfl (OK1.mv (Has.t rfl))) ?_
  refine DrG.st (i := 4) [10] rfl rfl rfl (by kernel_rfl) (OKG.T rfl rfl rfl (fun hg => have hg' := BP.t hg; OK1.mv (Has.t rfl))) ?_
  refine DrG.st (i := 5) [10, 11] rfl rfl rfl (by kernel_rfl) (OKG.T rfl rfl rfl (fun hg => have hg' := BP.t hg; OK1.ixK sl23 ty32 (Has.g rfl hg) (Has.cI 0 rfl) zc_len ⟨by decide, by decide⟩ (show _ = some (nz 2) from rfl))) ?_
  refine DrG.st (i := 6) [10, 12] rfl rfl rfl (by kernel_rfl) (OKG.T rfl rfl rfl (fun hg => have hg' := BP.t hg; OK1.loadP (Has.g rfl hg) ty32 rfl (Ss' := [_, _]) rfl)) ?_
  refine DrG.st (i := 7) [10] rfl rfl rfl (by kernel_rfl) (OKG.T rfl rfl rfl (fun hg => have hg' := BP.t hg; OK1.call (zint_Of) (.cons (Has.cI 2 rfl) .nil))) ?_
  refine DrG.st (i := 8) [10, 13, 14] rfl rfl rfl (by kernel_rfl) (OKG.T rfl rfl rfl (fun hg => have hg' := BP.t hg; OK1.eq (OK1.call (zint_Same (by rw [val_words]; exact Nat.le_trans (Nat.succ_le_succ aw_2) (by decide)) (by rw [val_words]; exact Nat.le_trans (Nat.succ_le_succ aw_2) (by decide))) (.cons (Has.g rfl hg) (.cons (Has.g rfl hg) .nil))) ((isB_eq (decide_eq_true (by simp only [zv_nf])))))) ?_
  refine DrG.st (i := 9) [10, 15] rfl rfl rfl (by kernel_rfl) (OKG.o rfl (OK1.pickAnd (Has.t rfl) (fun h => Has.g rfl h))) ?_
  refine DrG.st (i := 10) [16] rfl rfl rfl (by kernel_rfl) (OKG.o rfl (OK1.mv (Has.t rfl))) ?_
  refine DrG.st (i := 11) [17] rfl rfl rfl (by kernel_rfl) (OKG.T rfl rfl rfl (fun hg => have hg' := BP.t hg; OK1.mv (Has.t rfl))) ?_
  refine DrG.st (i := 12) [17, 18] rfl rfl rfl (by kernel_rfl) (OKG.T rfl rfl rfl (fun hg => have hg' := BP.t hg; OK1.ixK sl23 ty32 (Has.g rfl hg) (Has.cI 1 rfl) zc_len ⟨by decide, by decide⟩ (show _ = some (nz 2) from rfl))) ?_
  refine DrG.st (i := 13) [17, 19] rfl rfl rfl (by kernel_rfl) (OKG.T rfl rfl rfl (fun hg => have hg' := BP.t hg; OK1.loadP (Has.g rfl hg) ty32 rfl (Ss' := [_, _]) rfl)) ?_
  refine DrG.st (i := 14) [17] rfl rfl rfl (by kernel_rfl) (OKG.T rfl rfl rfl (fun hg => have hg' := BP.t hg; OK1.call (zint_Of) (.cons (Has.cI 2 rfl) .nil))) ?_
  refine DrG.fin (n := 15) mixed (by kernel_rfl) (by kernel_rfl) (by kernel_rfl) ?_
  refine Ops.cv (Cv.wk (.cons (t := 0) (Has.t rfl) (.cons (t := 1) (Has.t rfl) (.cons (t := 17) (Has.t rfl) (.cons (t := 20) (Has.t rfl) (.cons (t := 21) (Has.t rfl) .nil)))))) ?_
  refine stT rfl rfl (fun hg => have hg' := BP.t hg; OK1.eq (OK1.call (zint_Same (by rw [val_words]; exact Nat.le_trans (Nat.succ_le_succ aw_2) (by decide)) (by rw [val_words]; exact Nat.le_trans (Nat.succ_le_succ aw_2) (by decide))) (.cons (Has.g rfl hg) (.cons (Has.g rfl hg) .nil))) ((isB_eq (decide_eq_true (by simp only [zv_nf]))))) rfl ?_
  refine st (OK1.pickAnd (Has.t rfl) (fun h => Has.g rfl h)) rfl ?_
  refine st (OK1.mv (Has.t rfl)) rfl ?_
  refine stT rfl rfl (fun hg => have hg' := BP.t hg; OK1.mv (Has.t rfl)) rfl ?_
  refine stT rfl rfl (fun hg => have hg' := BP.t hg; OK1.ixK sl23 ty32 (Has.g rfl hg) (Has.cI 0 rfl) zc_len ⟨by decide, by decide⟩ (show _ = some (nz 2) from rfl)) rfl ?_
  refine stT rfl rfl (fun hg => have hg' := BP.t hg; OK1.loadP (Has.g rfl hg) ty32 rfl (Ss' := [_, _]) rfl) rfl ?_
  refine stT rfl rfl (fun hg => have hg' := BP.t hg; OK1.eq (OK1.call (zint_Sign (by rw [val_words]; exact Nat.le_trans (Nat.succ_le_succ aw_2) (by decide))) (.cons (Has.g rfl hg) .nil)) ((show isI _ = isI 1 from isI_eq (by rw [zv_nf]; rfl)))) rfl ?_
  refine stT rfl rfl (fun hg => have hg' := BP.t hg; OK1.eqI (Has.g rfl hg) (Has.cI 1 rfl)) rfl ?_
  refine st (OK1.pickAnd (Has.t rfl) (fun h => Has.g rfl h)) rfl ?_
  refine st (OK1.as (Has.t rfl)) rfl ?_
  refine nl ?_
  refine At.thn (hK3 _ _ ?_); clear hK3
  refine Tri.cv (Cv.wk (.cons (t := 0) (Has.t rfl) .nil)) ?_
  refine Tri.ret ?_
  refine rt1 (.inl rfl) Try.results9 rfl (.tmp (Has.t' rfl ?_) .nil)
  all_goals (rfl)
end Go.Proofs.Ytehcoegofjmhfaa
/- Polynomials over the whole numbers: what the laws of layer 10 say. No program here, but the numbers' cells. -/
namespace Go.Pz
open Go.Nt Go.En
theorem cf_one (c : Int) (i : Nat) : cf [c] i = if i = 0 then c else 0 := by
  cases i with
  | zero => rfl
  | succ i => rw [cf_succ, cf_nil, if_neg (by omega)]
theorem mul_one_left (c : Int) (g : Nat → Int) (n : Nat) : mul (cf [c]) g n = c * g n := by
  have := mul_shift n c g
  have h := mul_congr (f := cf [c]) (f' := cf (pshift [c] 0)) (g := g) (g' := g) (fun i => rfl) (fun _ => rfl) n
  rw [h, mul_shift, if_neg (Nat.not_lt_zero _), Nat.sub_zero]
theorem mul_one_right (c : Int) (g : Nat → Int) (n : Nat) : mul g (cf [c]) n = g n * c := by rw [mul_comm, mul_one_left, Int.mul_comm]
/-- all is as it should be (ZpolyReckons) -/
theorem rk_norm (a : List Int) : isB2 (pnorm a) a = true := isB2_true (norm_norm a) (cf_norm a)
theorem rk_add (a b : List Int) : isB2 (padd a b) (radd a b) = true := isB2_true (both_norm _ _ _) fun i => by rw [cf_add, cf_radd]
theorem rk_sub (a b : List Int) : isB2 (psub a b) (radd a (rmul [-1] b)) = true := isB2_true (both_norm _ _ _) fun i => by
  rw [cf_sub, cf_radd, cf_rmul, mul_one_left]; omega
theorem rk_mul (a b : List Int) : isB2 (pmul a b) (rmul a b) = true := isB2_true (mul_norm _ _) fun i => by rw [cf_pmul, cf_rmul]
theorem rk_scale (a : List Int) (c : Int) : isB2 (pscale a c) (rmul a [c]) = true := isB2_true (scale_norm _ _) fun i => by rw [cf_scale, cf_rmul, mul_one_right]
theorem mul_len (a b : List Int) : (pmul a b).length ≤ a.length + b.length := by
  have h1 := norm_len a
  have h2 := norm_len b
  unfold pmul
  split
  · exact Nat.zero_le _
  · exact Nat.le_trans (norm_len _) (by rw [List.length_map, List.length_range]; omega)
theorem deg_high {a : List Int} {i : Nat} (h : (pnorm a).length ≤ i) : cf a i = 0 := high_norm h
theorem rk_dead1 {a : List Int} {n : Nat} (hl : a.length = n) (h : (((pnorm a).length : Int) - 1 < -1 ∨ (n : Int) ≤ ((pnorm a).length : Int) - 1) ∨ (0 ≤ ((pnorm a).length : Int) - 1 ∧ sgn (cf a (((pnorm a).length : Int) - 1).toNat) = 0)) : False := by
  have h1 := norm_len a
  rcases h with (h | h) | ⟨h, h2⟩
  · omega
  · omega
  · refine norm_last (l := a) (fun e => by rw [e] at h; simp at h) ?_
    rw [sgn_eq0] at h2
    rwa [show (((pnorm a).length : Int) - 1).toNat = (pnorm a).length - 1 by omega] at h2
/-- a multiple is the quotient times the divisor, and the rest (ZpolyPseudo) -/
theorem psd_back {a b : List Int} (hb : pnorm b ≠ []) (i : Nat) : cf (radd (rmul (psd a b).1 b) (psd a b).2) i = cf (rmul a [cf (pnorm b) ((pnorm b).length - 1) ^ ((pnorm a).length + 1 - (pnorm b).length)]) i := by
  have e : psd a b = pseudo a b := by unfold psd; rw [if_neg hb]
  rw [cf_radd, cf_rmul, cf_rmul, mul_one_right, e, (pseudo_spec hb).1, Int.mul_comm]
theorem psd_short {a b : List Int} (hb : pnorm b ≠ []) : ((psd a b).2.length : Int) ≤ ((pnorm b).length : Int) - 1 := by
  have := psd_rest_len (a := a) hb; omega
/-- exact quotients -/
theorem exactGo_norm {lead : Int} {b : List Int} : ∀ (n : Nat) (q a r : List Int), exactGo lead b n q a = some r → pnorm r = r
  | 0, q, a, r, h => by
    unfold exactGo at h
    split at h
    · cases h; exact norm_norm _
    · cases h
  | n + 1, q, a, r, h => by
    unfold exactGo at h
    split at h
    · exact exactGo_norm n _ _ r h
    · cases h
theorem exq_sound {a b q : List Int} (h : exq a b = some q) : pnorm q = q ∧ ∀ i, mul (cf q) (cf b) i = cf a i := by
  unfold exq at h
  split at h
  · cases h
  · refine ⟨exactGo_norm _ _ _ _ h, fun i => ?_⟩
    have := exactGo_sound _ _ _ _ h i
    rw [mul_congr (g' := cf b) (fun _ => rfl) (cf_norm b), cf_norm, mul_congr (f := cf (pshift [] _)) (f' := fun _ => 0) (fun j => by rw [cf_shift]; split <;> rfl) (fun _ => rfl), zero_mul, Int.add_zero] at this
    exact this
theorem last_of {f : Nat → Int} : ∀ N, (∀ i, N ≤ i → f i = 0) → (∀ i, f i = 0) ∨ ∃ A, f A ≠ 0 ∧ ∀ i, A < i → f i = 0
  | 0, h => .inl fun i => h i (Nat.zero_le _)
  | N + 1, h => by
    by_cases e : f N = 0
    · refine last_of N fun i hi => ?_
      rcases Nat.lt_or_ge N i with h2 | h2
      · exact h i h2
      · rw [show i = N by omega]; exact e
    · exact .inr ⟨N, e, fun i hi => h i hi⟩
theorem exq_complete {a b : List Int} {f : Nat → Int} (hb : pnorm b ≠ []) (h : ∀ i, cf a i = mul f (cf b) i) {N : Nat} (hf : ∀ i, N ≤ i → f i = 0) : ∃ r, exq a b = some (pnorm r) ∧ ∀ i, cf r i = f i := by
  have hp : 0 < (pnorm b).length := List.length_pos_iff.2 hb
  have hlast := norm_last hb
  have hz : ∀ i, (pnorm a).length + 1 - (pnorm b).length ≤ i → f i = 0 := by
    rcases last_of N hf with h0 | ⟨A, hA, hA2⟩
    · exact fun i _ => h0 i
    · intro i hi
      refine hA2 i ?_
      have htop : cf a (A + ((pnorm b).length - 1)) ≠ 0 := by
        rw [h, mul_top hA2 (fun j hj => deg_high (by omega))]
        exact Int.mul_ne_zero hA hlast
      have hlt : A + ((pnorm b).length - 1) < (pnorm a).length := by
        rcases Nat.lt_or_ge (A + ((pnorm b).length - 1)) (pnorm a).length with h3 | h3
        · exact h3
        · exact absurd (deg_high h3) htop
      omega
  obtain ⟨r, h1, h2⟩ := exactGo_complete (lead := cf (pnorm b) ((pnorm b).length - 1)) (b := pnorm b) hp rfl (lead_ne hb) ((pnorm a).length + 1 - (pnorm b).length) [] (pnorm a) f (fun i => by
    rw [cf_norm, h]; exact mul_congr (fun _ => rfl) (fun j => (cf_norm b j).symm) i) hz
  refine ⟨r, by unfold exq; rw [if_neg hb]; exact h1, fun i => ?_⟩
  rw [h2]
  split
  · rfl
  · rename_i h3; rw [cf_nil, hz i (by omega)]
theorem exq_mul {a b : List Int} (hb : pnorm b ≠ []) : exq (pmul a b) b = some (pnorm a) := by
  obtain ⟨r, h1, h2⟩ := exq_complete (a := pmul a b) (f := cf a) hb (cf_pmul a b) (N := a.length) (fun i hi => cf_high hi)
  rw [h1, norm_ext h2]
/-- a primitive divisor of a multiple divides -/
theorem cont_smul (c : Int) (l : List Int) : cont (pscale l c) = c.natAbs * cont l := by
  have := cont_mul (a := [c]) (b := l) (c := pscale l c) (fun n => by rw [cf_scale, mul_one_left, Int.mul_comm])
  rw [this]
  have e : cont [c] = c.natAbs := by unfold cont; show Nat.gcd 0 c.natAbs = _; exact Nat.gcd_zero_left _
  rw [e]
theorem cancel {c : Int} (hc : c ≠ 0) {x y : Int} (h : c * x = c * y) : x = y := Int.eq_of_mul_eq_mul_left hc h
/-- what divides a multiple, and whose content divides the content, divides -/
theorem gauss_div {q b a : List Int} {c : Int} (hc : c ≠ 0) (hb : pnorm b ≠ []) (h : ∀ i, mul (cf q) (cf b) i = c * cf a i) (hd : cont b ∣ cont a) : ∃ t : List Int, ∀ i, cf a i = mul (cf t) (cf b) i := by
  have hcb : cont b ≠ 0 := fun e => by
    have := cont_zero.1 e
    exact hb (norm_nil.2 this)
  have hm : cont (pscale a c) = cont q * cont b := cont_mul (a := q) (b := b) (c := pscale a c) (fun n => by rw [cf_scale, h, Int.mul_comm])
  rw [cont_smul] at hm
  obtain ⟨k, hk⟩ := hd
  have hq : c.natAbs ∣ cont q := by
    refine ⟨k, Nat.eq_of_mul_eq_mul_left (Nat.pos_of_ne_zero hcb) ?_⟩
    rw [hk] at hm
    rw [Nat.mul_comm, ← hm, Nat.mul_left_comm]
  have hqi : ∀ i, c ∣ cf q i := fun i => by
    have h1 := cont_dvd q i
    have h2 : (c.natAbs : Int) ∣ cf q i := Int.dvd_trans (Int.natCast_dvd_natCast.2 hq) h1
    exact Int.natAbs_dvd.1 h2
  refine ⟨q.map fun x => x.tdiv c, fun i => cancel hc ?_⟩
  rw [← h, ← smul_mul]
  exact mul_congr (fun j => by rw [cf_mapt, Int.mul_comm]; exact (Int.tdiv_mul_cancel (hqi j)).symm) (fun _ => rfl) i
theorem pow_ne (a : Int) : ∀ n : Nat, a ≠ 0 → a ^ n ≠ 0
  | 0, _ => by rw [Int.pow_zero]; decide
  | n + 1, h => by rw [Int.pow_succ]; exact Int.mul_ne_zero (pow_ne a n h) h
theorem pz_exact_no {c b : List Int} (hb : pnorm b ≠ []) (h : exq c b = none) : ¬ ((psd c b).2 = [] ∧ Nat.gcd (cont c) (cont b) = cont b) := by
  rintro ⟨h1, h2⟩
  have e : psd c b = pseudo c b := by unfold psd; rw [if_neg hb]
  have hs := (pseudo_spec (a := c) hb).1
  rw [← e, h1] at hs
  obtain ⟨t, ht⟩ := gauss_div (q := (psd c b).1) (b := b) (a := c) (c := cf (pnorm b) ((pnorm b).length - 1) ^ ((pnorm c).length + 1 - (pnorm b).length)) (pow_ne _ _ (lead_ne hb)) hb (fun i => by have := hs i; rw [cf_nil, Int.add_zero] at this; exact this) (h2 ▸ Nat.gcd_dvd_left _ _)
  obtain ⟨r, hr, _⟩ := exq_complete hb ht (N := t.length) (fun i hi => cf_high hi)
  rw [h] at hr; cases hr
/-- contents (ZpolyContent) -/
theorem cont_norm (l : List Int) : cont (pnorm l) = cont l := cont_eq fun i => by rw [cf_norm]
theorem cont_pmul (a b : List Int) : cont (pmul a b) = cont a * cont b := cont_mul (cf_pmul a b)
theorem cont_ne {l : List Int} (h : pnorm l ≠ []) : cont l ≠ 0 := fun e => h (norm_nil.2 (cont_zero.1 e))
theorem cont_prim {l : List Int} (h : pnorm l ≠ []) : cont (prim l) = 1 := by
  have e : cont (pscale (prim l) (scont (pnorm l))) = cont l := cont_eq fun i => by rw [cf_scale, prim_back]
  rw [cont_smul, scont_abs, cont_norm] at e
  exact Nat.eq_of_mul_eq_mul_left (Nat.pos_of_ne_zero (cont_ne h)) (by rw [e, Nat.mul_one])
theorem prim_lead {l : List Int} (h : pnorm l ≠ []) : sgn (cf (prim l) ((prim l).length - 1)) = 1 := by
  have hl := norm_last h
  have hb := prim_back l ((prim l).length - 1)
  rw [prim_len] at hb ⊢
  have hc := cont_ne h
  have hs : scont (pnorm l) = if cf l ((pnorm l).length - 1) < 0 then -(cont l : Int) else (cont l : Int) := by unfold scont; rw [cf_norm, cont_norm]
  rcases sgn_cases (cf (prim l) ((pnorm l).length - 1)) with h1 | h1 | h1
  · rw [h1.2, Int.zero_mul] at hb; exact absurd hb.symm hl
  · exfalso
    by_cases hn : cf l ((pnorm l).length - 1) < 0
    · rw [if_pos hn] at hs
      have : 0 < cf (prim l) ((pnorm l).length - 1) * scont (pnorm l) := Int.mul_pos_of_neg_of_neg h1.2 (by omega)
      omega
    · rw [if_neg hn] at hs
      have : cf (prim l) ((pnorm l).length - 1) * scont (pnorm l) < 0 := Int.mul_neg_of_neg_of_pos h1.2 (by omega)
      omega
  · exact h1.1
theorem content_back (a : List Int) : (∀ i, cf (pscale (prim a) (cont a)) i = cf a i) ∨ (∀ i, cf (pscale (pscale (prim a) (cont a)) (-1)) i = cf a i) := by
  have hs : scont (pnorm a) = if cf (pnorm a) ((pnorm a).length - 1) < 0 then -(cont a : Int) else (cont a : Int) := by unfold scont; rw [cont_norm]
  by_cases hn : cf (pnorm a) ((pnorm a).length - 1) < 0
  · right
    intro i
    rw [if_pos hn] at hs
    rw [cf_scale, cf_scale, ← prim_back a i, hs, Int.mul_neg, Int.mul_neg, Int.mul_one]
  · left
    intro i
    rw [if_neg hn] at hs
    rw [cf_scale, ← prim_back a i, hs]
theorem pow_nw {c : Int} {L : Nat} (h : (List.length (words c.natAbs)) ≤ L) : ∀ n, (List.length (words (c ^ n).natAbs)) ≤ 1 + L * n
  | 0 => by rw [Int.pow_zero, nz_one]; omega
  | n + 1 => by
    have h1 := pow_nw h n
    have h2 := nz_mul (c ^ n) c
    have e : L * (n + 1) = L * n + L := Nat.mul_succ _ _
    rw [Int.pow_succ]; omega
theorem content_all {p q : Prop} [Decidable p] [Decidable q] (h : p ∨ q) : (true && true && true && (decide p || decide q)) = true := by
  rcases h with h | h
  · rw [decide_eq_true h]; rfl
  · rw [decide_eq_true h, Bool.or_true]; rfl
theorem exactGo_bd {lead : Int} {B A : List Int} {K L m0 : Nat} (hB : Bd B L) (hm : m0 + B.length ≤ A.length + 1 ∨ m0 = 0) : ∀ (n : Nat) (q a r : List Int), ExI lead B A K L m0 n q a → exactGo lead B n q a = some r → Bd r (K + m0 * (L + 1)) ∧ r.length ≤ m0
  | 0, q, a, r, p, h => by
    unfold exactGo at h
    split at h
    · cases h
      exact ⟨p.bq.norm, Nat.le_trans (norm_len _) (by have := p.lq; omega)⟩
    · cases h
  | n + 1, q, a, r, p, h => by
    have hle := p.le
    unfold exactGo at h
    split at h
    · rename_i hd
      exact exactGo_bd hB hm n _ _ r (p.step hB (by omega) hd) h
    · cases h
theorem exq_bd {a b q : List Int} {K L : Nat} (ha : Bd a K) (hb : Bd b L) (h : exq a b = some q) : Bd q (K + (a.length + 1) * (L + 1)) := by
  have hn := norm_len a
  unfold exq at h
  split at h
  · cases h
  · have := (exactGo_bd (K := K) (L := L) (m0 := (pnorm a).length + 1 - (pnorm b).length) hb.norm (by omega) _ _ _ _ (ExI.start ha.norm (norm_norm _)) h).1
    exact this.mono (Nat.add_le_add_left (Nat.mul_le_mul_right _ (by omega)) _)
theorem exactGo_len {lead : Int} {b : List Int} : ∀ (n : Nat) (q a r : List Int), exactGo lead b n q a = some r → r.length ≤ q.length + n
  | 0, q, a, r, h => by
    unfold exactGo at h
    split at h
    · cases h; exact norm_len _
    · cases h
  | n + 1, q, a, r, h => by
    unfold exactGo at h
    split at h
    · have := exactGo_len n _ _ r h
      rw [List.length_cons] at this; omega
    · cases h
theorem exq_len {a b q : List Int} (h : exq a b = some q) : q.length ≤ a.length + 1 := by
  have hn := norm_len a
  unfold exq at h
  split at h
  · cases h
  · have := exactGo_len _ _ _ _ h
    rw [List.length_nil] at this; omega
theorem exact_all {r : List Int} {g c : Nat} (h : ¬ (r = [] ∧ g = c)) : (decide (((([] : List Int).map nz).length : Int) = 0) && (decide (0 < ((r.map nz).length : Int)) || !decide (g = c))) = true := by
  rw [Bool.and_eq_true, Bool.or_eq_true, decide_eq_true_eq, decide_eq_true_eq, Bool.not_eq_true', decide_eq_false_iff_not]
  refine ⟨rfl, ?_⟩
  rcases Classical.em (r = []) with e | e
  · exact .inr fun hg => h ⟨e, hg⟩
  · exact .inl (by rw [List.length_map]; have := List.length_pos_iff.2 e; omega)
end Go.Pz
/- Polynomials over the whole numbers: the rounds make the greatest common divisor. No program here. -/
namespace Go.Pz
open Go.Nt
/-- d divides a -/
def Dv (d a : List Int) : Prop := ∃ t : List Int, ∀ i, cf a i = mul (cf t) (cf d) i
theorem Dv.congr {d d' a a' : List Int} (h : Dv d a) (e : ∀ i, cf d i = cf d' i) (e2 : ∀ i, cf a i = cf a' i) : Dv d' a' := by
  obtain ⟨t, ht⟩ := h
  exact ⟨t, fun i => by rw [← e2, ht]; exact mul_congr (fun _ => rfl) e i⟩
theorem Dv.refl (a : List Int) : Dv a a := ⟨[1], fun i => by rw [mul_one_left, Int.one_mul]⟩
theorem Dv.trans {a b c : List Int} (h : Dv a b) (k : Dv b c) : Dv a c := by
  obtain ⟨s, hs⟩ := h
  obtain ⟨t, ht⟩ := k
  exact ⟨pmul t s, fun i => by rw [ht, mul_congr (fun _ => rfl) hs, ← mul_assoc]; exact mul_congr (fun j => (cf_pmul t s j).symm) (fun _ => rfl) i⟩
theorem Dv.mulL {d a c : List Int} (q : List Int) (h : Dv d a) (e : ∀ i, cf c i = mul (cf q) (cf a) i) : Dv d c := h.trans ⟨q, e⟩
theorem Dv.smul {d a c : List Int} (k : Int) (h : Dv d a) (e : ∀ i, cf c i = k * cf a i) : Dv d c := h.mulL [k] fun i => by rw [e, mul_one_left]
theorem Dv.add {d a b c : List Int} (h : Dv d a) (k : Dv d b) (e : ∀ i, cf c i = cf a i + cf b i) : Dv d c := by
  obtain ⟨s, hs⟩ := h
  obtain ⟨t, ht⟩ := k
  exact ⟨padd s t, fun i => by rw [e, hs, ht, ← add_mul]; exact mul_congr (fun j => (cf_add s t j).symm) (fun _ => rfl) i⟩
theorem Dv.zero {d a : List Int} (h : ∀ i, cf a i = 0) : Dv d a := ⟨[], fun i => by rw [h]; exact ((mul_congr (f := cf []) (f' := fun _ => 0) (fun _ => rfl) (fun _ => rfl) i).trans (zero_mul _ i)).symm⟩
theorem Dv.cont {d a : List Int} (h : Dv d a) : cont d ∣ cont a := by
  obtain ⟨t, ht⟩ := h
  rw [cont_mul ht]; exact ⟨Go.Pz.cont t, Nat.mul_comm _ _⟩
theorem norm_of_ne {a : List Int} (h : ¬ ∀ i, cf a i = 0) : pnorm a ≠ [] := fun e => h (norm_nil.1 e)
/-- a primitive divisor of a multiple divides -/
theorem Dv.prim_of {p a c : List Int} {k : Int} (hp : Go.Pz.cont p = 1) (hk : k ≠ 0) (h : Dv p c) (e : ∀ i, cf c i = k * cf a i) : Dv p a := by
  obtain ⟨q, hq⟩ := h
  have hpn : pnorm p ≠ [] := norm_of_ne fun h0 => by
    have := cont_zero.2 h0
    omega
  obtain ⟨t, ht⟩ := gauss_div (q := q) (b := p) (a := a) (c := k) hk hpn (fun i => by rw [← hq, e]) (by rw [hp]; exact Nat.one_dvd _)
  exact ⟨t, ht⟩
theorem scont_ne' {l : List Int} (h : pnorm l ≠ []) : scont (pnorm l) ≠ 0 := scont_ne h (norm_norm l)
theorem prim_dv (l : List Int) : Dv (prim l) l := (Dv.refl (prim l)).smul (scont (pnorm l)) fun i => by rw [Int.mul_comm, prim_back]
theorem dv_prim {p l : List Int} (hp : Go.Pz.cont p = 1) (h : Dv p l) : Dv p (prim l) := by
  by_cases hl : pnorm l = []
  · refine Dv.zero fun i => ?_
    rw [cf_prim, norm_nil.1 hl i, Int.zero_tdiv]
  · exact Dv.prim_of hp (scont_ne' hl) h fun i => by rw [Int.mul_comm, prim_back]
/-- 0, or primitive with a positive number at its degree -/
def Pm (a : List Int) : Prop := pnorm a = a ∧ (a = [] ∨ (Go.Pz.cont a = 1 ∧ 0 < cf a (a.length - 1)))
theorem prim_pm (l : List Int) : Pm (prim l) := by
  refine ⟨prim_norm l, ?_⟩
  by_cases h : pnorm l = []
  · exact .inl (prim_nil.2 h)
  · exact .inr ⟨cont_prim h, by
      have := prim_lead h
      rcases sgn_cases (cf (prim l) ((prim l).length - 1)) with h1 | h1 | h1 <;> omega⟩
/-- one round keeps the primitive common divisors -/
theorem round_dv {p a b : List Int} (hp : Go.Pz.cont p = 1) (hb : pnorm b = b) (hne : b ≠ []) : (Dv p a ∧ Dv p b) ↔ (Dv p b ∧ Dv p (prim (psd a b).2)) := by
  have hbn : pnorm b ≠ [] := by rw [hb]; exact hne
  have e : psd a b = pseudo a b := by unfold psd; rw [if_neg hbn]
  have hs := (pseudo_spec (a := a) hbn).1
  rw [← e] at hs
  have hl := pow_ne _ ((pnorm a).length + 1 - (pnorm b).length) (lead_ne hbn)
  constructor
  · rintro ⟨h1, h2⟩
    refine ⟨h2, dv_prim hp ?_⟩
    have h3 : Dv p (pmul (psd a b).1 b) := h2.mulL (psd a b).1 (cf_pmul _ _)
    have h4 : Dv p (pscale (pmul (psd a b).1 b) (-1)) := h3.smul (-1) fun i => by rw [cf_scale]; omega
    have h5 : Dv p (pscale a (cf (pnorm b) ((pnorm b).length - 1) ^ ((pnorm a).length + 1 - (pnorm b).length))) := h1.smul _ fun i => by rw [cf_scale, Int.mul_comm]
    exact h5.add h4 fun i => by
      have := hs i
      rw [cf_scale, cf_scale, cf_pmul, Int.mul_comm (cf a i), ← this]; omega
  · rintro ⟨h1, h2⟩
    refine ⟨?_, h1⟩
    have h3 : Dv p (psd a b).2 := h2.trans (prim_dv _)
    have h4 : Dv p (pmul (psd a b).1 b) := h1.mulL (psd a b).1 (cf_pmul _ _)
    have h5 : Dv p (padd (pmul (psd a b).1 b) (psd a b).2) := h4.add h3 (cf_add _ _)
    exact Dv.prim_of hp hl h5 fun i => by rw [cf_add, cf_pmul]; exact hs i
theorem go_dv : ∀ (n : Nat) (a b : List Int), b.length ≤ n → Pm a → Pm b → Pm (pgcdGo n a b) ∧ (pgcdGo n a b = [] ↔ a = [] ∧ b = []) ∧ ∀ p, Go.Pz.cont p = 1 → ((Dv p a ∧ Dv p b) ↔ Dv p (pgcdGo n a b))
  | 0, a, b, hn, ha, hb => by
    have hb0 : b = [] := List.eq_nil_of_length_eq_zero (by omega)
    subst hb0
    exact ⟨ha, ⟨fun h => ⟨h, rfl⟩, fun h => h.1⟩, fun p _ => ⟨fun h => h.1, fun h => ⟨h, Dv.zero fun i => rfl⟩⟩⟩
  | n + 1, a, b, hn, ha, hb => by
    by_cases h0 : b = []
    · subst h0
      rw [pgcdGo_nil]
      exact ⟨ha, ⟨fun h => ⟨h, rfl⟩, fun h => h.1⟩, fun p _ => ⟨fun h => h.1, fun h => ⟨h, Dv.zero fun i => rfl⟩⟩⟩
    · have e : pgcdGo (n + 1) a b = pgcdGo n b (prim (psd a b).2) := if_neg h0
      have hr := psd_rest_len (a := a) (b := b) (by rw [hb.1]; exact h0)
      rw [hb.1] at hr
      have hpl : (prim (psd a b).2).length ≤ n := by
        rw [prim_len]; have := norm_len (psd a b).2; omega
      obtain ⟨g1, g2, g3⟩ := go_dv n b (prim (psd a b).2) hpl hb (prim_pm _)
      rw [e]
      exact ⟨g1, ⟨fun h => absurd (g2.1 h).1 h0, fun h => absurd h.2 h0⟩, fun p hp => (round_dv hp hb.1 h0).trans (g3 p hp)⟩
theorem pm_lead {a : List Int} (h : Pm a) (hne : a ≠ []) : Go.Pz.cont a = 1 ∧ 0 < cf a (a.length - 1) := h.2.resolve_left hne
/-- the greatest common divisor -/
theorem pgcd_norm (a b : List Int) : pnorm (pgcd a b) = pgcd a b := scale_norm _ _
theorem pgcd_all (a b : List Int) : (pgcd a b = [] ↔ pnorm a = [] ∧ pnorm b = []) ∧ Dv (pgcd a b) a ∧ Dv (pgcd a b) b ∧ (∀ d, ¬ (∀ i, cf d i = 0) → Dv d a → Dv d b → Dv d (pgcd a b)) ∧ (pgcd a b ≠ [] → 0 < cf (pgcd a b) ((pgcd a b).length - 1)) := by
  obtain ⟨g1, g2, g3⟩ := go_dv (prim b).length (prim a) (prim b) (Nat.le_refl _) (prim_pm a) (prim_pm b)
  obtain ⟨G, hG⟩ : ∃ G, G = pgcdGo (prim b).length (prim a) (prim b) := ⟨_, rfl⟩
  rw [← hG] at g1 g2 g3
  obtain ⟨c, hc⟩ : ∃ c, c = Nat.gcd (cont a) (cont b) := ⟨_, rfl⟩
  have hg : pgcd a b = pscale G (c : Int) := by unfold pgcd; rw [← hG, ← hc]
  rw [prim_nil, prim_nil] at g2
  have hcf : ∀ i, cf (pgcd a b) i = cf G i * (c : Int) := fun i => by rw [hg, cf_scale]
  by_cases hz : pnorm a = [] ∧ pnorm b = []
  · have hGn : G = [] := g2.2 hz
    have he : ∀ i, cf (pgcd a b) i = 0 := fun i => by rw [hcf, hGn, cf_nil, Int.zero_mul]
    have hnil : pgcd a b = [] := by rw [← pgcd_norm]; exact norm_nil.2 he
    exact ⟨⟨fun _ => hz, fun _ => hnil⟩, Dv.zero (norm_nil.1 hz.1), Dv.zero (norm_nil.1 hz.2), fun d _ _ _ => Dv.zero he, fun h => absurd hnil h⟩
  · have hGne : G ≠ [] := fun h => hz (g2.1 h)
    obtain ⟨hG1, hGl⟩ := pm_lead g1 hGne
    have hc0 : c ≠ 0 := fun e => by
      rw [hc] at e
      obtain ⟨e1, e2⟩ := Nat.gcd_eq_zero_iff.1 e
      exact hz ⟨norm_nil.2 (cont_zero.1 e1), norm_nil.2 (cont_zero.1 e2)⟩
    have hci : (c : Int) ≠ 0 := by omega
    obtain ⟨d1, d2⟩ := (g3 G hG1).2 (Dv.refl G)
    have hdv : ∀ l : List Int, c ∣ cont l → Dv G (prim l) → Dv (pgcd a b) l := by
      intro l ⟨k, hk⟩ ⟨t, ht⟩
      obtain ⟨m, hm⟩ : ∃ m : Int, scont (pnorm l) = m * c := by
        have h1 := scont_abs (pnorm l)
        rw [cont_norm, hk] at h1
        rcases Int.natAbs_eq (scont (pnorm l)) with h2 | h2
        · exact ⟨k, by rw [h2, h1, Int.natCast_mul, Int.mul_comm]⟩
        · exact ⟨-k, by rw [h2, h1, Int.natCast_mul, Int.neg_mul, Int.mul_comm]⟩
      refine ⟨pscale t m, fun i => ?_⟩
      rw [← prim_back l i, hm, ht]
      have e1 : mul (cf (pscale t m)) (cf (pgcd a b)) i = mul (fun j => m * cf t j) (fun j => (c : Int) * cf G j) i := mul_congr (fun j => by rw [cf_scale, Int.mul_comm]) (fun j => by rw [hcf, Int.mul_comm]) i
      rw [e1, smul_mul, mul_smul, Int.mul_comm, Int.mul_assoc]
    have hlen : (pgcd a b).length = G.length := by
      have h1 : ∀ i, cf (pgcd a b) i = cf (G.map fun x => x * (c : Int)) i := fun i => by rw [hcf, cf_map]
      have h2 := norm_ext h1
      rw [pgcd_norm] at h2
      have h3 : pnorm (G.map fun x => x * (c : Int)) = G.map fun x => x * (c : Int) := normal_iff.2 (.inr (by
        rw [List.length_map, cf_map]; exact Int.mul_ne_zero (by omega) hci))
      rw [h2, h3, List.length_map]
    refine ⟨⟨fun h => ?_, fun h => absurd h hz⟩, hdv a (hc ▸ Nat.gcd_dvd_left _ _) d1, hdv b (hc ▸ Nat.gcd_dvd_right _ _) d2, fun d hd ha hb => ?_, fun _ => ?_⟩
    · rw [h] at hlen
      exact absurd (List.eq_nil_of_length_eq_zero hlen.symm) hGne
    · have hdn := norm_of_ne hd
      have hp1 := cont_prim hdn
      have hpa : Dv (prim d) (prim a) := dv_prim hp1 ((prim_dv d).trans ha)
      have hpb : Dv (prim d) (prim b) := dv_prim hp1 ((prim_dv d).trans hb)
      obtain ⟨t, ht⟩ := (g3 (prim d) hp1).1 ⟨hpa, hpb⟩
      obtain ⟨k, hk⟩ : cont d ∣ c := hc ▸ Nat.dvd_gcd ha.cont hb.cont
      obtain ⟨m, hm⟩ : ∃ m : Int, (c : Int) = m * scont (pnorm d) := by
        have h1 := scont_abs (pnorm d)
        rw [cont_norm] at h1
        rcases Int.natAbs_eq (scont (pnorm d)) with h2 | h2
        · exact ⟨k, by rw [h2, h1, hk, Int.natCast_mul, Int.mul_comm]⟩
        · exact ⟨-k, by rw [h2, h1, hk, Int.natCast_mul, Int.neg_mul_neg, Int.mul_comm]⟩
      refine ⟨pscale t m, fun i => ?_⟩
      rw [hcf, ht, hm]
      have e1 : mul (cf (pscale t m)) (cf d) i = mul (fun j => m * cf t j) (fun j => scont (pnorm d) * cf (prim d) j) i := mul_congr (fun j => by rw [cf_scale, Int.mul_comm]) (fun j => by rw [Int.mul_comm, prim_back]) i
      rw [e1, smul_mul, mul_smul, Int.mul_comm, Int.mul_assoc]
    · rw [hlen, hcf]; exact Int.mul_pos hGl (by omega)
/-- products are not 0 -/
theorem mul_ne {f g : List Int} (hf : ¬ ∀ i, cf f i = 0) (hg : ¬ ∀ i, cf g i = 0) : mul (cf f) (cf g) ((pnorm f).length - 1 + ((pnorm g).length - 1)) ≠ 0 := by
  have h1 := norm_of_ne hf
  have h2 := norm_of_ne hg
  have l1 := List.length_pos_iff.2 h1
  have l2 := List.length_pos_iff.2 h2
  rw [mul_top (fun i hi => deg_high (by omega)) (fun i hi => deg_high (by omega))]
  exact Int.mul_ne_zero (norm_last h1) (norm_last h2)
theorem mul_cancel {f g c : List Int} (hc : ¬ ∀ i, cf c i = 0) (h : ∀ i, mul (cf f) (cf c) i = mul (cf g) (cf c) i) : ∀ i, cf f i = cf g i := by
  refine Classical.byContradiction fun hno => ?_
  have hd : ¬ ∀ i, cf (psub f g) i = 0 := fun h0 => hno fun i => by have := h0 i; rw [cf_sub] at this; omega
  have := mul_ne hd hc
  refine this ?_
  rw [mul_congr (f' := fun j => cf f j + (-1) * cf g j) (fun j => by rw [cf_sub]; omega) (fun _ => rfl), add_mul, smul_mul, h]; omega
/-- a divisor of 1 is 1 or -1 -/
theorem unit_of {w u : List Int} (h : ∀ i, mul (cf w) (cf u) i = cf [1] i) : (∀ i, cf u i = cf [1] i) ∨ (∀ i, cf u i = cf [-1] i) := by
  have hw : ¬ ∀ i, cf w i = 0 := fun h0 => by
    have := h 0
    rw [mul_congr (f' := fun _ => 0) h0 (fun _ => rfl), zero_mul] at this
    exact absurd this (by decide)
  have hu : ¬ ∀ i, cf u i = 0 := fun h0 => by
    have := h 0
    rw [mul_comm, mul_congr (f' := fun _ => 0) h0 (fun _ => rfl), zero_mul] at this
    exact absurd this (by decide)
  have ht := mul_ne hw hu
  have hd : (pnorm u).length ≤ 1 := by
    rw [h, cf_one] at ht
    split at ht
    · omega
    · exact absurd rfl ht
  have hp := List.length_pos_iff.2 (norm_of_ne hu)
  have hu0 : ∀ i, 0 < i → cf u i = 0 := fun i hi => deg_high (by omega)
  have h0 := h 0
  have e0 : mul (cf w) (cf u) 0 = cf w 0 * cf u 0 := by
    have := mul_top (A := 0) (B := 0) (f := fun i => if i = 0 then cf w 0 else 0) (g := cf u) (fun i hi => if_neg (by omega)) (fun i hi => hu0 i hi)
    have e2 : mul (cf w) (cf u) 0 = mul (fun i => if i = 0 then cf w 0 else 0) (cf u) 0 := by
      rw [mul_comm, mul_comm 0 (fun i => if i = 0 then cf w 0 else 0)]
      rw [mul_rows, mul_rows]; rfl
    rw [e2]; exact this
  rw [e0] at h0
  have h1 : cf w 0 * cf u 0 = 1 := h0
  have h3 : (cf u 0).natAbs = 1 := by
    have := congrArg Int.natAbs h1
    rw [Int.natAbs_mul] at this
    exact Nat.eq_one_of_mul_eq_one_left this
  rcases (show cf u 0 = 1 ∨ cf u 0 = -1 by omega) with h2 | h2
  · exact .inl fun i => by rw [cf_one]; split; · rename_i e; rw [e, h2]
                           · exact hu0 i (by omega)
  · exact .inr fun i => by rw [cf_one]; split; · rename_i e; rw [e, h2]
                           · exact hu0 i (by omega)
/-- what divide each other differ by a sign -/
theorem dv_dv {a b : List Int} (h : Dv a b) (k : Dv b a) : (∀ i, cf a i = cf b i) ∨ (∀ i, cf a i = - cf b i) := by
  by_cases h0 : ∀ i, cf b i = 0
  · obtain ⟨t, ht⟩ := k
    exact .inl fun i => by rw [ht, mul_comm, mul_congr (f' := fun _ => 0) h0 (fun _ => rfl), zero_mul, h0]
  · obtain ⟨s, hs⟩ := h
    obtain ⟨t, ht⟩ := k
    have hu : ∀ i, mul (cf s) (cf t) i = cf [1] i := by
      have := mul_cancel (f := pmul s t) (g := [1]) (c := b) h0 fun i => by
        rw [mul_one_left, Int.one_mul, mul_congr (cf_pmul s t) (fun _ => rfl), mul_assoc, mul_congr (fun _ => rfl) (fun j => (ht j).symm), ← hs]
      intro i; rw [← cf_pmul]; exact this i
    rcases unit_of hu with h1 | h1
    · exact .inl fun i => by rw [ht, mul_congr h1 (fun _ => rfl), mul_one_left, Int.one_mul]
    · exact .inr fun i => by rw [ht, mul_congr h1 (fun _ => rfl), mul_one_left]; omega
theorem pgcd_comm (a b : List Int) : pgcd a b = pgcd b a := by
  obtain ⟨n1, a1, b1, u1, l1⟩ := pgcd_all a b
  obtain ⟨n2, a2, b2, u2, l2⟩ := pgcd_all b a
  by_cases h : pgcd a b = []
  · rw [h, n2.2 ((n1.1 h).symm)]
  · have h' : pgcd b a ≠ [] := fun e => h (n1.2 (n2.1 e).symm)
    have nz1 : ¬ ∀ i, cf (pgcd a b) i = 0 := fun e => h (by rw [← pgcd_norm]; exact norm_nil.2 e)
    have nz2 : ¬ ∀ i, cf (pgcd b a) i = 0 := fun e => h' (by rw [← pgcd_norm]; exact norm_nil.2 e)
    rcases dv_dv (u2 _ nz1 b1 a1) (u1 _ nz2 b2 a2) with e | e
    · exact same_norm (pgcd_norm _ _) (pgcd_norm _ _) e
    · exfalso
      have hl : (pgcd a b).length = (pgcd b a).length := by
        have h1 : ∀ i, cf (pgcd a b) i = cf ((pgcd b a).map fun x => x * (-1)) i := fun i => by rw [e, cf_map]; omega
        have h2 := norm_ext h1
        rw [pgcd_norm] at h2
        have h3 : pnorm ((pgcd b a).map fun x => x * (-1)) = (pgcd b a).map fun x => x * (-1) := normal_iff.2 (.inr (by
          rw [List.length_map, cf_map]; have := l2 h'; omega))
        rw [h2, h3, List.length_map]
      have p1 := l1 h
      have p2 := l2 h'
      rw [hl, e] at p1; omega
/-- what both are multiplied by comes out -/
theorem pgcd_mul (a b c : List Int) (hg : pgcd a b ≠ []) : (∀ i, cf (pgcd (pmul a c) (pmul b c)) i = cf (pmul (pgcd a b) c) i) ∨ (∀ i, cf (pgcd (pmul a c) (pmul b c)) i = - cf (pmul (pgcd a b) c) i) := by
  obtain ⟨n1, a1, b1, u1, l1⟩ := pgcd_all a b
  obtain ⟨n2, a2, b2, u2, l2⟩ := pgcd_all (pmul a c) (pmul b c)
  have nzg : ¬ ∀ i, cf (pgcd a b) i = 0 := fun e => hg (by rw [← pgcd_norm]; exact norm_nil.2 e)
  by_cases hc : ∀ i, cf c i = 0
  · left
    intro i
    have hz : ∀ l : List Int, ∀ i, cf (pmul l c) i = 0 := fun l i => by rw [cf_pmul, mul_comm, mul_congr (f' := fun _ => 0) hc (fun _ => rfl), zero_mul]
    rw [hz, n2.2 ⟨norm_nil.2 (hz a), norm_nil.2 (hz b)⟩, cf_nil]
  · obtain ⟨h, hh⟩ : ∃ h, h = pgcd (pmul a c) (pmul b c) := ⟨_, rfl⟩
    rw [← hh] at n2 a2 b2 u2 l2 ⊢
    have nzgc : ¬ ∀ i, cf (pmul (pgcd a b) c) i = 0 := fun e => mul_ne nzg hc (by rw [← cf_pmul]; exact e _)
    have up : ∀ l : List Int, Dv (pgcd a b) l → Dv (pmul (pgcd a b) c) (pmul l c) := by
      rintro l ⟨t, ht⟩
      exact ⟨t, fun i => by rw [cf_pmul, mul_congr ht (fun _ => rfl), mul_assoc]; exact mul_congr (fun _ => rfl) (fun j => (cf_pmul _ _ j).symm) i⟩
    have k1 : Dv (pmul (pgcd a b) c) h := u2 _ nzgc (up a a1) (up b b1)
    obtain ⟨u, hu⟩ := k1
    -- h is (u g) c, so u g divides both
    have hh2 : ∀ i, cf h i = mul (cf (pmul u (pgcd a b))) (cf c) i := fun i => by
      rw [hu, mul_congr (fun _ => rfl) (cf_pmul (pgcd a b) c), ← mul_assoc]; exact mul_congr (fun j => (cf_pmul _ _ j).symm) (fun _ => rfl) i
    have down : ∀ l : List Int, Dv h (pmul l c) → Dv (pmul u (pgcd a b)) l := by
      rintro l ⟨t, ht⟩
      refine ⟨t, fun i => ?_⟩
      have := mul_cancel (f := l) (g := pmul t (pmul u (pgcd a b))) (c := c) hc fun i => by
        rw [← cf_pmul, ht, mul_congr (fun _ => rfl) hh2, ← mul_assoc]; exact mul_congr (fun j => (cf_pmul _ _ j).symm) (fun _ => rfl) i
      rw [this i, cf_pmul]
    have nzug : ¬ ∀ i, cf (pmul u (pgcd a b)) i = 0 := fun e => by
      have hz : ∀ i, cf h i = 0 := fun i => by rw [hh2, mul_congr (f' := fun _ => 0) e (fun _ => rfl), zero_mul]
      have hhn : pnorm h = h := by rw [hh]; exact pgcd_norm _ _
      have := n2.1 (by rw [← hhn]; exact norm_nil.2 hz)
      exact hg (n1.2 ⟨norm_nil.2 fun i => by
        refine Classical.byContradiction fun hi => ?_
        exact mul_ne (f := a) (fun e => hi (e i)) hc (by rw [← cf_pmul]; exact norm_nil.1 this.1 _), norm_nil.2 fun i => by
        refine Classical.byContradiction fun hi => ?_
        exact mul_ne (f := b) (fun e => hi (e i)) hc (by rw [← cf_pmul]; exact norm_nil.1 this.2 _)⟩)
    have k2 : Dv (pmul u (pgcd a b)) (pgcd a b) := u1 _ nzug (down a a2) (down b b2)
    obtain ⟨w, hw⟩ := k2
    have k3 : Dv h (pmul (pgcd a b) c) := ⟨w, fun i => by
      rw [cf_pmul, mul_congr hw (fun _ => rfl), mul_assoc]; exact mul_congr (fun _ => rfl) (fun j => (hh2 j).symm) i⟩
    exact dv_dv k3 ⟨u, hu⟩
end Go.Pz
/- Polynomials over the whole numbers: how large the greatest common divisor grows, and what the law asks. No program here. -/
namespace Go.Pz
open Go.Nt Go.En
theorem mul_len1 (a b : List Int) : (pmul a b).length ≤ a.length + b.length - 1 := by
  have h1 := norm_len a
  have h2 := norm_len b
  unfold pmul
  split
  · exact Nat.zero_le _
  · exact Nat.le_trans (norm_len _) (by rw [List.length_map, List.length_range]; omega)
theorem GcI.out {C : Nat} : ∀ (n : Nat) {g a b : List Int}, GcI C g n a b → (∃ K, Bd g K ∧ K ≤ C) ∧ g.length ≤ max a.length b.length := by
  intro n
  induction n with
  | zero =>
    intro g a b p
    obtain ⟨K, ka, _, _, _, _, kc⟩ := p.bnd
    have hg : a = g := p.go
    subst hg
    exact ⟨⟨K, ka, kc⟩, Nat.le_max_left _ _⟩
  | succ n ih =>
    intro g a b p
    by_cases h : b = []
    · obtain ⟨K, ka, _, _, _, _, kc⟩ := p.bnd
      have hg := p.go
      rw [h, pgcdGo_nil] at hg
      subst hg
      exact ⟨⟨K, ka, kc⟩, Nat.le_max_left _ _⟩
    · have hs := (p.step h).2
      rw [Nat.add_sub_cancel] at hs
      obtain ⟨k1, k2⟩ := ih hs
      have hr := psd_rest_len (a := a) (b := b) (by rw [p.nb]; exact h)
      rw [p.nb] at hr
      have hpl : (prim (psd a b).2).length ≤ b.length := by
        rw [prim_len]; exact Nat.le_trans (norm_len _) (Nat.le_of_lt hr)
      exact ⟨k1, Nat.le_trans k2 (by omega)⟩
theorem pgcd_sz {a b : List Int} {K C : Nat} (ha : Bd a K) (hb : Bd b K) (hC : 2 * (K + 1) * 3 ^ (max a.length b.length) ≤ C) : Bd (pgcd a b) (C + K) ∧ (pgcd a b).length ≤ max a.length b.length := by
  have h1 := norm_len a
  have h2 := norm_len b
  have h3 := prim_len a
  have h4 := prim_len b
  have h5 : 3 ^ (max (prim a).length (prim b).length) ≤ 3 ^ (max a.length b.length) := Nat.pow_le_pow_right (by decide) (by omega)
  obtain ⟨⟨k, k1, k2⟩, k3⟩ := GcI.out _ (GcI.start (C := C) ha.prim hb.prim (prim_norm a) (prim_norm b) (Nat.le_trans (Nat.mul_le_mul_left _ h5) hC))
  unfold pgcd
  refine ⟨(k1.scale (L := K) (by rw [Int.natAbs_natCast]; exact gcd_nw (cont_nw' ha) (cont_nw' hb))).mono (by omega), Nat.le_trans (scale_len _ _) (by omega)⟩
theorem exq_dv {g a : List Int} (hg : pnorm g = g) (h0 : g ≠ []) (h : Dv g a) : (exq a g).isSome = true := by
  obtain ⟨t, ht⟩ := h
  obtain ⟨r, hr, _⟩ := exq_complete (a := a) (b := g) (f := cf t) (by rw [hg]; exact h0) ht (N := t.length) (fun i hi => cf_high hi)
  rw [hr]; rfl
theorem gcd_all {h w : List Int} (k : (∀ i, cf h i = cf w i) ∨ (∀ i, cf h i = - cf w i)) : (decide (psub h w = []) || decide (psub h (pscale w (-1)) = [])) = true := by
  rcases k with k | k
  · rw [decide_eq_true (sub_nil.2 k)]; rfl
  · rw [decide_eq_true (p := psub h (pscale w (-1)) = []) (sub_nil.2 fun i => by rw [k, cf_scale]; omega), Bool.or_true]
end Go.Pz
/- A law of layer 10: greatest common divisors, as a contract. -/
namespace Go.Proofs.Ytehcoegofjmhfaa
open Go.En Go.RowKit
set_option linter.unusedVariables false
set_option maxRecDepth 10000
open Go.Nt
open Go.Pz
set_option maxHeartbeats 4000000 in
theorem c_ZpolyGcd (xs ys zs : List (Bool × List Nat)) : Ctr Try.prog 7 [SlK 2 zc xs, SlK 2 zc ys, SlK 2 zc zs] (isB true) := by
  refine Ctr.intro Try.func7 rfl (by kernel_rfl) Try.ntmps7 rfl fun w0 F0 => ?_
  refine Tri.cv (Cv.wk (.cons (t := 0) (Has.t rfl) (.cons (t := 1) (Has.t rfl) (.cons (t := 2) (Has.t rfl) .nil)))) ?_
  refine Tri.fact (Has.lenLt (Has.t (t := 0) rfl)) fun lt0 => ?_
  refine Tri.fact (Has.lenLt (Has.t (t := 1) rfl)) fun lt1 => ?_
  refine Tri.fact (Has.lenLt (Has.t (t := 2) rfl)) fun lt2 => ?_
  refine Tri.fact (Has.okP (Has.t (t := 0) rfl)) fun okp0 => ?_
  refine Tri.fact (Has.okP (Has.t (t := 1) rfl)) fun okp1 => ?_
  refine Tri.fact (Has.okP (Has.t (t := 2) rfl)) fun okp2 => ?_
  refine Tri.seq fun K1 hK1 => ?_
  refine Tri.region ?_
  refine st (OK1.as (Has.cB false)) rfl ?_
  refine nl ?_
  refine At.thn (hK1 _ _ ?_); clear hK1
  refine Tri.seq fun K2 hK2 => ?_
  refine Tri.seq fun K3 hK3 => ?_
  refine Tri.region ?_
  refine st (OK1.call (law10_awake) .nil) rfl ?_
  refine st (OK1.not (Has.t rfl)) rfl ?_
  refine st (OK1.mv (Has.t rfl)) rfl ?_
  refine stF rfl rfl (fun hg => have hg' := BP.t hg; OK1.mv (Has.t rfl)) rfl ?_
  refine stF rfl rfl (fun hg => have hg' := BP.t hg; OK1.mv (Has.t rfl)) rfl ?_
  refine stF rfl rfl (fun hg => have hg' := BP.t hg; OK1.call (law10_few) (.cons (Has.g rfl hg) (.cons (Has.g rfl hg) (.cons (Has.cI 6 rfl) (.cons (Has.cI 1 rfl) .nil))))) rfl ?_
  refine stF rfl rfl (fun hg => have hg' := BP.t hg; OK1.not (Has.g rfl hg)) rfl ?_
  refine st (OK1.pickOr (Has.t rfl) (fun h => Has.g rfl (ng h))) rfl ?_
  refine st (OK1.mv (Has.t rfl)) rfl ?_
  refine stF rfl rfl (fun hg => have hg' := BP.t hg; OK1.mv (Has.t rfl)) rfl ?_
  refine stF rfl rfl (fun hg => have hg' := BP.t hg; OK1.call (ref10_Few) (.cons (Has.g rfl hg) (.cons (Has.cI 4 rfl) (.cons (Has.cI 1 rfl) .nil)))) rfl ?_
  refine stF rfl rfl (fun hg => have hg' := BP.t hg; OK1.not (Has.g rfl hg)) rfl ?_
  refine st (OK1.pickOr (Has.t rfl) (fun h => Has.g rfl (ng h))) rfl ?_
  refine nl ?_
  refine At.thn (hK3 _ _ ?_); clear hK3
  refine Tri.cv (Cv.wk (.cons (t := 0) (Has.t rfl) (.cons (t := 1) (Has.t rfl) (.cons (t := 2) (Has.t rfl) (.cons (t := 6) (Has.t rfl) (.cons (t := 27) (Has.t rfl) .nil)))))) ?_
  refine Tri.cond (Has.t rfl) (fun hc1 => ?_) (fun hc1 => ?_)
  · have hc1 := BP.t hc1
    skip
    refine Tri.seq fun K4 hK4 => ?_
    refine Tri.region ?_
    refine st (OK1.call (law10_awake) .nil) rfl ?_
    refine st (OK1.as (Has.t rfl)) rfl ?_
    refine nl ?_
    refine At.thn (hK4 _ _ ?_); clear hK4
    refine Tri.ret ?_
    refine At.thr ?_
    refine rt1 (.inl rfl) Try.results7 rfl (.tmp (Has.t' rfl ?_) .nil)
    all_goals (rfl)
  · have hc1 := BP.f hc1
    have HF0 : (fewB xs 6 1 = true ∧ fewB ys 6 1 = true) ∧ fewB zs 4 1 = true := (by simpa using hc1)
    obtain ⟨HF, HG⟩ := HF0
    obtain ⟨hl0, hb0⟩ := fewB_bd (N := 6) (K := 1) okp0 (HF.1) rfl rfl (by decide)
    obtain ⟨hl1, hb1⟩ := fewB_bd (N := 6) (K := 1) okp1 (HF.2) rfl rfl (by decide)
    obtain ⟨hl2, hb2⟩ := fewB_bd (N := 4) (K := 1) okp2 HG rfl rfl (by decide)
    have hvz := vals_len zs
    have hvx := vals_len xs
    have hvy := vals_len ys
    have hnx := norm_len (vals xs)
    have hny := norm_len (vals ys)
    have hac := (Bd.mul hb0 hb2).mono (show 1 + 1 + (vals xs).length ≤ 8 by omega)
    have hbc := (Bd.mul hb1 hb2).mono (show 1 + 1 + (vals ys).length ≤ 8 by omega)
    have hacl := mul_len1 (vals xs) (vals zs)
    have hbcl := mul_len1 (vals ys) (vals zs)
    have p6 : ∀ n, n ≤ 6 → 2 * (1 + 1) * 3 ^ n ≤ 2916 := fun n hn => Nat.le_trans (Nat.mul_le_mul_left _ (Nat.pow_le_pow_right (by decide) hn)) (by decide)
    have p9 : ∀ n, n ≤ 9 → 2 * (8 + 1) * 3 ^ n ≤ 400000 := fun n hn => Nat.le_trans (Nat.mul_le_mul_left _ (Nat.pow_le_pow_right (by decide) hn)) (by decide)
    obtain ⟨hgb, hgl⟩ := pgcd_sz hb0 hb1 (p6 _ (by omega))
    obtain ⟨hhb, hhl⟩ := pgcd_sz hac hbc (p9 _ (by omega))
    obtain ⟨hn0, hn1, hn2, _, hn4⟩ := pgcd_all (vals xs) (vals ys)
    obtain ⟨hm0, _, _, _, _⟩ := pgcd_all (pmul (vals xs) (vals zs)) (pmul (vals ys) (vals zs))
    obtain ⟨g, hGd⟩ : ∃ g, g = pgcd (vals xs) (vals ys) := ⟨_, rfl⟩
    obtain ⟨h, hHd⟩ : ∃ h, h = pgcd (pmul (vals xs) (vals zs)) (pmul (vals ys) (vals zs)) := ⟨_, rfl⟩
    rw [← hGd] at hgb hgl hn0 hn1 hn2 hn4
    rw [← hHd] at hhb hhl hm0
    have hgn : pnorm g = g := by rw [hGd]; exact pgcd_norm _ _
    have hgm : (g.map nz).length = g.length := List.length_map _
    have hhm : (h.map nz).length = h.length := List.length_map _
    have hgz : ((g.map nz).length : Int) = (g.length : Int) := by omega
    have hwb := Bd.mul hgb hb2
    have hwl := mul_len1 g (vals zs)
    refine Tri.skip ?_
    refine At.thn (hK2 _ _ ?_); clear hK2
    refine Tri.seq fun K5 hK5 => ?_
    refine Tri.region ?_
    refine st (OK1.mv (Has.t rfl)) rfl ?_
    refine st (OK1.mv (Has.t rfl)) rfl ?_
    refine st (OK1.eq (OK1.call (zpoly_Gcd (K := 1) hb0 hb1 (Nat.le_trans (p6 _ (by omega)) (by decide)) (by omega) (by omega)) (.cons (Has.t rfl) (.cons (Has.t rfl) .nil))) ((show isP _ = isP g from isP_eq hGd.symm))) rfl ?_
    refine st (OK1.as (Has.t rfl)) rfl ?_
    refine nl ?_
    refine At.thn (hK5 _ _ ?_); clear hK5
    refine Tri.seq fun K6 hK6 => ?_
    refine Tri.region ?_
    refine st (OK1.mv (Has.t rfl)) rfl ?_
    refine st (OK1.mv (Has.t rfl)) rfl ?_
    refine st (OK1.call (zpoly_Mul (K := 1) (L := 1) hb0 hb2 (by decide) (by decide) (by omega) (by omega)) (.cons (Has.t rfl) (.cons (Has.t rfl) .nil))) rfl ?_
    refine st (OK1.mv (Has.t rfl)) rfl ?_
    refine st (OK1.mv (Has.t rfl)) rfl ?_
    refine st (OK1.call (zpoly_Mul (K := 1) (L := 1) hb1 hb2 (by decide) (by decide) (by omega) (by omega)) (.cons (Has.t rfl) (.cons (Has.t rfl) .nil))) rfl ?_
    refine st (OK1.eq (OK1.call (zpoly_Gcd (K := 8) (by rw [vals_nz]; exact hac) (by rw [vals_nz]; exact hbc) (by rw [List.length_map, List.length_map]; exact p9 _ (by omega)) (by rw [List.length_map]; omega) (by rw [List.length_map]; omega)) (.cons (Has.t rfl) (.cons (Has.t rfl) .nil))) ((show isP _ = isP h from isP_eq (by rw [vals_nz, vals_nz]; exact hHd.symm)))) rfl ?_
    refine st (OK1.as (Has.t rfl)) rfl ?_
    refine nl ?_
    refine At.thn (hK6 _ _ ?_); clear hK6
    refine Tri.cv (Cv.wk (.cons (t := 0) (Has.t rfl) (.cons (t := 1) (Has.t rfl) (.cons (t := 2) (Has.t rfl) (.cons (t := 6) (Has.t rfl) (.cons (t := 7) (Has.t rfl) (.cons (t := 8) (Has.t rfl) .nil))))))) ?_
    refine Tri.seq fun K7 hK7 => ?_
    refine Tri.seq fun K8 hK8 => ?_
    refine Tri.region ?_
    refine st (OK1.mv (Has.t rfl)) rfl ?_
    refine st (OK1.eq (OK1.call (ref10_Normal (K := 2917) hgb (by decide)) (.cons (Has.t rfl) .nil)) ((show isB _ = isB true from isB_eq (decide_eq_true hgn)))) rfl ?_
    refine st (OK1.not (Has.t rfl)) rfl ?_
    refine st (OK1.mv (Has.t rfl)) rfl ?_
    refine stF rfl rfl (fun hg => have hg' := BP.t hg; OK1.mv (Has.t rfl)) rfl ?_
    refine stF rfl rfl (fun hg => have hg' := BP.t hg; OK1.mv (Has.t rfl)) rfl ?_
    refine stF rfl rfl (fun hg => have hg' := BP.t hg; OK1.mv (Has.t rfl)) rfl ?_
    refine stF rfl rfl (fun hg => have hg' := BP.t hg; OK1.eq (OK1.call (zpoly_Gcd (K := 1) hb1 hb0 (Nat.le_trans (p6 _ (by omega)) (by decide)) (by omega) (by omega)) (.cons (Has.g rfl hg) (.cons (Has.g rfl hg) .nil))) ((show isP _ = isP g from isP_eq (by rw [hGd]; exact pgcd_comm _ _)))) rfl ?_
    refine stF rfl rfl (fun hg => have hg' := BP.t hg; OK1.eq (OK1.call (zpoly_Same (K := 2917) (by rw [vals_nz]; exact hgb) (by rw [vals_nz]; exact hgb) (by decide) (by omega) (by omega)) (.cons (Has.g rfl hg) (.cons (Has.g rfl hg) .nil))) ((show isB _ = isB true from isB_eq (decide_eq_true (sub_nil.2 fun i => rfl))))) rfl ?_
    refine stF rfl rfl (fun hg => have hg' := BP.t hg; OK1.not (Has.g rfl hg)) rfl ?_
    refine st (OK1.pickOr (Has.t rfl) (fun h => Has.g rfl (ng h))) rfl ?_
    refine nl ?_
    refine At.thn (hK8 _ _ ?_); clear hK8
    refine Tri.cv (Cv.wk (.cons (t := 0) (Has.t rfl) (.cons (t := 1) (Has.t rfl) (.cons (t := 2) (Has.t rfl) (.cons (t := 6) (Has.t rfl) (.cons (t := 7) (Has.t rfl) (.cons (t := 8) (Has.t rfl) (.cons (t := 49) (Has.t rfl) .nil)))))))) ?_
    refine Tri.cond (Has.t rfl) (fun hc2 => ?_) (fun hc2 => ?_)
    · have hc2 := BP.t hc2
      simp at hc2
    · have hc2 := BP.f hc2
      skip
      refine Tri.skip ?_
      refine At.thn (hK7 _ _ ?_); clear hK7
      refine Tri.seq fun K9 hK9 => ?_
      refine Tri.seq fun K10 hK10 => ?_
      refine Tri.region ?_
      refine st (OK1.mv (Has.t rfl)) rfl ?_
      refine st (OK1.len sl23 (Has.t rfl)) rfl ?_
      refine st (OK1.eqI (Has.t rfl) (Has.cI 0 rfl)) rfl ?_
      refine nl ?_
      refine At.thn (hK10 _ _ ?_); clear hK10
      refine Tri.cond (Has.t rfl) (fun hc3 => ?_) (fun hc3 => ?_)
      · have hc3 := BP.t hc3
        have hg0 : g = [] := List.eq_nil_of_length_eq_zero (by omega)
        refine Tri.seq fun K11 hK11 => ?_
        refine Tri.region ?_
        refine st (OK1.mv (Has.t rfl)) rfl ?_
        refine st (OK1.call (zpoly_Degree (K := 1) hb0 (by decide) (by omega)) (.cons (Has.t rfl) .nil)) rfl ?_
        refine st (OK1.ltI (Has.t rfl) (Has.cI 0 rfl)) rfl ?_
        refine st (OK1.mv (Has.t rfl)) rfl ?_
        refine stT rfl rfl (fun hg => have hg' := BP.t hg; OK1.mv (Has.t rfl)) rfl ?_
        refine stT rfl rfl (fun hg => have hg' := BP.t hg; OK1.call (zpoly_Degree (K := 1) hb1 (by decide) (by omega)) (.cons (Has.g rfl hg) .nil)) rfl ?_
        refine stT rfl rfl (fun hg => have hg' := BP.t hg; OK1.ltI (Has.g rfl hg) (Has.cI 0 rfl)) rfl ?_
        refine st (OK1.pickAnd (Has.t rfl) (fun h => Has.g rfl h)) rfl ?_
        refine st (OK1.mv (Has.t rfl)) rfl ?_
        refine stT rfl rfl (fun hg => have hg' := BP.t hg; OK1.mv (Has.t rfl)) rfl ?_
        refine stT rfl rfl (fun hg => have hg' := BP.t hg; OK1.len sl23 (Has.g rfl hg)) rfl ?_
        refine stT rfl rfl (fun hg => have hg' := BP.t hg; OK1.eqI (Has.g rfl hg) (Has.cI 0 rfl)) rfl ?_
        refine st (OK1.pickAnd (Has.t rfl) (fun h => Has.g rfl h)) rfl ?_
        refine st (OK1.as (Has.t rfl)) rfl ?_
        refine nl ?_
        refine At.thn (hK11 _ _ ?_); clear hK11
        refine Tri.cv (Cv.wk (.cons (t := 0) (Has.t rfl) (.cons (t := 1) (Has.t rfl) (.cons (t := 2) (Has.t rfl) (.cons (t := 6) (Has.t rfl) (.cons (t := 7) (Has.t rfl) (.cons (t := 8) (Has.t rfl) .nil))))))) ?_
        refine Tri.ret ?_
        refine At.thr ?_
        refine rt1 (.inl rfl) Try.results7 rfl (.tmp (Has.t' rfl ?_) .nil)
        all_goals (exact isB_eq (by obtain ⟨e1, e2⟩ := hn0.1 hg0; have e3 : h = [] := hm0.2 ⟨by rw [mul_norm]; unfold pmul; rw [if_pos (.inl e1)], by rw [mul_norm]; unfold pmul; rw [if_pos (.inl e2)]⟩; rw [e1, e2, e3]; rfl))
      · have hc3 := BP.f hc3
        have hg0 : g ≠ [] := fun e => hc3 (by rw [e]; rfl)
        have hgp : 0 < g.length := List.length_pos_iff.2 hg0
        have hx1 := exq_dv hgn hg0 hn1
        have hx2 := exq_dv hgn hg0 hn2
        have hlead := hn4 hg0
        have hmm := pgcd_mul (vals xs) (vals ys) (vals zs) (hGd ▸ hg0)
        rw [← hGd, ← hHd] at hmm
        refine Tri.skip ?_
        refine At.thn (hK9 _ _ ?_); clear hK9
        refine Tri.seq fun K12 hK12 => ?_
        refine Tri.region ?_
        refine st (OK1.mv (Has.t rfl)) rfl ?_
        refine st (OK1.mv (Has.t rfl)) rfl ?_
        refine st (OK1.eq (OK1.call (zpoly_Exact (K := 1) (L := 2917) hb0 (by rw [vals_nz]; exact hgb) (by omega) (by omega) (by omega)) (.cons (Has.t rfl) (.cons (Has.t rfl) .nil))) ((show isTup [isP _, isB _] = isTup [isP ((exq (vals xs) g).getD []), isB true] from by rw [vals_nz, hx1]))) rfl ?_
        refine st (OK1.mv (Has.t rfl)) rfl ?_
        refine st (OK1.ext (Has.t rfl) rfl) rfl ?_
        refine st (OK1.ext (Has.t rfl) rfl) rfl ?_
        refine st (OK1.as (Has.t rfl)) rfl ?_
        refine st (OK1.as (Has.t rfl)) rfl ?_
        refine nl ?_
        refine At.thn (hK12 _ _ ?_); clear hK12
        refine Tri.cv (Cv.wk (.cons (t := 1) (Has.t rfl) (.cons (t := 2) (Has.t rfl) (.cons (t := 6) (Has.t rfl) (.cons (t := 7) (Has.t rfl) (.cons (t := 8) (Has.t rfl) (.cons (t := 10) (Has.t rfl) .nil))))))) ?_
        refine Tri.seq fun K13 hK13 => ?_
        refine Tri.region ?_
        refine st (OK1.mv (Has.t rfl)) rfl ?_
        refine st (OK1.mv (Has.t rfl)) rfl ?_
        refine st (OK1.eq (OK1.call (zpoly_Exact (K := 1) (L := 2917) hb1 (by rw [vals_nz]; exact hgb) (by omega) (by omega) (by omega)) (.cons (Has.t rfl) (.cons (Has.t rfl) .nil))) ((show isTup [isP _, isB _] = isTup [isP ((exq (vals ys) g).getD []), isB true] from by rw [vals_nz, hx2]))) rfl ?_
        refine st (OK1.mv (Has.t rfl)) rfl ?_
        refine st (OK1.ext (Has.t rfl) rfl) rfl ?_
        refine st (OK1.ext (Has.t rfl) rfl) rfl ?_
        refine st (OK1.as (Has.t rfl)) rfl ?_
        refine st (OK1.as (Has.t rfl)) rfl ?_
        refine nl ?_
        refine At.thn (hK13 _ _ ?_); clear hK13
        refine Tri.cv (Cv.wk (.cons (t := 2) (Has.t rfl) (.cons (t := 6) (Has.t rfl) (.cons (t := 7) (Has.t rfl) (.cons (t := 8) (Has.t rfl) (.cons (t := 10) (Has.t rfl) (.cons (t := 12) (Has.t rfl) .nil))))))) ?_
        refine Tri.seq fun K14 hK14 => ?_
        refine Tri.region ?_
        refine st (OK1.mv (Has.t rfl)) rfl ?_
        refine st (OK1.mv (Has.t rfl)) rfl ?_
        refine st (OK1.eq (OK1.call (zpoly_Mul (K := 2917) (L := 1) (by rw [vals_nz]; exact hgb) hb2 (by decide) (by decide) (by omega) (by omega)) (.cons (Has.t rfl) (.cons (Has.t rfl) .nil))) ((show isP _ = isP (pmul g (vals zs)) from isP_eq (by rw [vals_nz])))) rfl ?_
        refine st (OK1.as (Has.t rfl)) rfl ?_
        refine nl ?_
        refine At.thn (hK14 _ _ ?_); clear hK14
        refine Tri.seq fun K15 hK15 => ?_
        refine Tri.region ?_
        refine st (OK1.mv (Has.t rfl)) rfl ?_
        refine st (OK1.call (zint_Of) (.cons (Has.cI (-1) rfl) .nil)) rfl ?_
        refine st (OK1.eq (OK1.call (zpoly_Scale (K := 3000) (L := 1) (by rw [vals_nz]; exact hwb.mono (by omega)) (by rw [val_words]; exact nw_small' (by decide)) (by decide) (by rw [List.length_map]; omega)) (.cons (Has.t rfl) (.cons (Has.t rfl) .nil))) ((show isP _ = isP (pscale (pmul g (vals zs)) (-1)) from isP_eq (by rw [vals_nz]; rw [zv_nf])))) rfl ?_
        refine st (OK1.as (Has.t rfl)) rfl ?_
        refine nl ?_
        refine At.thn (hK15 _ _ ?_); clear hK15
        refine Tri.cv (Cv.wk (.cons (t := 6) (Has.t rfl) (.cons (t := 7) (Has.t rfl) (.cons (t := 8) (Has.t rfl) (.cons (t := 10) (Has.t rfl) (.cons (t := 12) (Has.t rfl) (.cons (t := 13) (Has.t rfl) (.cons (t := 14) (Has.t rfl) .nil)))))))) ?_
        refine Tri.seq fun K16 hK16 => ?_
        refine Tri.region ?_
        refine st (OK1.mv (Has.t rfl)) rfl ?_
        refine st (OK1.mv (Has.t rfl)) rfl ?_
        refine stT rfl rfl (fun hg => have hg' := BP.t hg; OK1.mv (Has.t rfl)) rfl ?_
        refine st (OK1.pickAnd (Has.t rfl) (fun h => Has.g rfl h)) rfl ?_
        refine st (OK1.mv (Has.t rfl)) rfl ?_
        refine stT rfl rfl (fun hg => have hg' := BP.t hg; OK1.mv (Has.t rfl)) rfl ?_
        refine stT rfl rfl (fun hg => have hg' := BP.t hg; OK1.mv (Has.t rfl)) rfl ?_
        refine stT rfl rfl (fun hg => have hg' := BP.t hg; OK1.len sl23 (Has.g rfl hg)) rfl ?_
        refine stT rfl rfl (fun hg => have hg' := BP.t hg; OK1.subI (Has.g rfl hg) (Has.cI 1 rfl) (by first | omega | assumption) (by first | omega | assumption)) rfl ?_
        refine stT rfl rfl (fun hg => have hg' := BP.t hg; OK1.ixK sl23 ty32 (Has.g rfl hg) (Has.g rfl hg) zc_len ⟨by omega, by omega⟩ (getD_some (d := (false, [])) (by first | omega | (simp only [Int.toNat_natCast, List.length_set]; omega)))) rfl ?_
        refine stT rfl rfl (fun hg => have hg' := BP.t hg; OK1.eq (OK1.loadP (Has.g rfl hg) ty32 rfl (Ss' := [_, _]) rfl) ((zc_eq (q := nz (cf g (g.length - 1))) (by rw [getD_nz]; congr 2; omega)))) rfl ?_
        refine stT rfl rfl (fun hg => have hg' := BP.t hg; OK1.eq (OK1.call (zint_Sign (by rw [val_words]; have := hgb (g.length - 1); omega)) (.cons (Has.g rfl hg) .nil)) ((show isI _ = isI 1 from isI_eq (by rw [zv_nz]; have := (sgn_pos _).2 hlead; have := sgn_range (cf g (g.length - 1)); omega)))) rfl ?_
        refine stT rfl rfl (fun hg => have hg' := BP.t hg; OK1.eqI (Has.g rfl hg) (Has.cI 1 rfl)) rfl ?_
        refine st (OK1.pickAnd (Has.t rfl) (fun h => Has.g rfl h)) rfl ?_
        refine st (OK1.mv (Has.t rfl)) rfl ?_
        refine stT rfl rfl (fun hg => have hg' := BP.t hg; OK1.mv (Has.t rfl)) rfl ?_
        refine stT rfl rfl (fun hg => have hg' := BP.t hg; OK1.mv (Has.t rfl)) rfl ?_
        refine stT rfl rfl (fun hg => have hg' := BP.t hg; OK1.eq (OK1.call (zpoly_Same (K := 400008) (by rw [vals_nz]; exact hhb) (by rw [vals_nz]; exact hwb.mono (by omega)) (by decide) (by rw [List.length_map]; omega) (by rw [List.length_map]; omega)) (.cons (Has.g rfl hg) (.cons (Has.g rfl hg) .nil))) ((by rw [vals_nz, vals_nz]))) rfl ?_
        refine stT rfl rfl (fun hg => have hg' := BP.t hg; OK1.mv (Has.g rfl hg)) rfl ?_
        refine stGF rfl rfl (fun hg => have hg' := BP.t hg; OK1.mv (Has.t rfl)) rfl ?_
        refine stGF rfl rfl (fun hg => have hg' := BP.t hg; OK1.mv (Has.t rfl)) rfl ?_
        refine stGF rfl rfl (fun hg => have hg' := BP.t hg; OK1.eq (OK1.call (zpoly_Same (K := 400008) (by rw [vals_nz]; exact hhb) (by rw [vals_nz]; exact (Bd.scale (c := (-1 : Int)) (L := 1) hwb (nw_small' (by decide))).mono (by omega)) (by decide) (by rw [List.length_map]; omega) (by rw [List.length_map]; have := scale_len (pmul g (vals zs)) (-1); omega)) (.cons (Has.g rfl hg) (.cons (Has.g rfl hg) .nil))) ((by rw [vals_nz, vals_nz]))) rfl ?_
        refine stT rfl rfl (fun hg => have hg' := BP.t hg; OK1.pickOr (Has.g rfl hg) (fun h => Has.g rfl (gn hg h))) rfl ?_
        refine st (OK1.pickAnd (Has.t rfl) (fun h => Has.g rfl h)) rfl ?_
        refine st (OK1.as (Has.t rfl)) rfl ?_
        refine nl ?_
        refine At.thn (hK16 _ _ ?_); clear hK16
        refine Tri.cv (Cv.wk (.cons (t := 6) (Has.t rfl) .nil)) ?_
        refine Tri.ret ?_
        refine rt1 (.inl rfl) Try.results7 rfl (.tmp (Has.t' rfl ?_) .nil)
        all_goals (exact isB_eq (gcd_all hmm))
end Go.Proofs.Ytehcoegofjmhfaa
/- Slices of whole numbers that a law is handed. -/
namespace Go.En
open Go.RowKit Go.ChangeShapes Go.WideShapes Go.ChangeAt
set_option linter.unusedVariables false
theorem pair_get {α β : Type} (g h : α → β) : ∀ (l : List α) (j : Nat), (l.flatMap fun a => [g a, h a])[j]? = (l[j / 2]?).map (fun a => if j % 2 = 0 then g a else h a)
  | [], j => by simp
  | a :: l, 0 => by simp
  | a :: l, 1 => by simp
  | a :: l, j + 2 => by
    have := pair_get g h l j
    rw [show (j + 2) / 2 = j / 2 + 1 by omega, show (j + 2) % 2 = j % 2 by omega]
    simpa using this
section
variable {H : Type} {enc : TypeId × Value → H} {P : Program}
/-- a slice of signs with words -/
theorem open_Zs {W : World} {base : Nat} {T e tb ts T' : TypeId} {v : Value} {d : DataW H} {ps : List MemPlace} (hT : P.underlying T = some (.slice e)) (hfs : fsB P e = some [(tb, 0), (ts, 1)]) (hub : P.underlying tb = some .bool) (hu : P.underlying ts = some (.slice T')) (hu' : P.underlying T' = some (.int .u64)) (hc : P.cellsOf T' = 1) (hcb : P.cellsOf tb = 1) (hcs : P.cellsOf ts = 1) (hce : P.cellsOf e = 2)
    (hv : Value.okWide P W .any base T v) (h : DataW.Trod enc P W 0 (fun _ => true) true T v d ps) (hps : ∀ x ∈ ps, x.block < W.heap.size) : ∃ xs : List (Bool × List Nat), (isZs xs).h W (fun b => b < W.heap.size) v := by
  obtain ⟨a0, n0, c0, rfl⟩ := okWide_slice hT hv
  obtain ⟨fuel, hf⟩ := h
  obtain ⟨fs, hue, hsz, hget⟩ := fsB_spec hfs
  obtain ⟨f0, g0, rfl, e0⟩ := hget 0 tb 0 rfl
  obtain ⟨f1, g1, rfl, e1⟩ := hget 1 ts 1 rfl
  have hfs2 : fs = #[f0, f1] := by
    apply Array.ext'
    have hl : fs.toList.length = 2 := by simpa using hsz
    match hq : fs.toList, hl with
    | [p, q], _ =>
      have a0 : fs.toList[0]? = some f0 := by simpa using g0
      have a1 : fs.toList[1]? = some f1 := by simpa using g1
      rw [hq] at a0 a1
      simp at a0 a1
      rw [a0, a1]
  subst hfs2
  rcases Deep.open_slice_pairs hT hue hce e0 e1 hcb hcs hf with ⟨h1, _⟩ | ⟨a, len, cap, m, n, V0, V1, D0, D1, P0, P1, h1, _, hlc, hcm, hm, hx, hel⟩
  · have e : Value.slice a0 n0 c0 = .slice none 0 0 := by simpa [Value.cells] using h1
    rw [e]; exact ⟨[], nilK⟩
  · have e : Value.slice a0 n0 c0 = .slice (some a) len cap := by simpa [Value.cells] using h1
    rw [e]
    simp only [if_true] at hm
    subst m
    have hps' : ∀ i, i < cap → ∀ y ∈ P1 i, y.block < W.heap.size := fun i hi y hy => hps y (by
      have := (Prod.mk.inj hx).2
      rw [this]
      exact List.mem_append_right _ (List.mem_flatMap.2 ⟨i, List.mem_range.2 hi, List.mem_append_right _ hy⟩))
    obtain ⟨l, hl, hgl⟩ := list_of_get (p := fun i (x : Bool × List Nat) => V0 i = .bool x.1 ∧ (isWords x.2).h W (fun b => b < W.heap.size) (V1 i)) len (fun i hi => by
      obtain ⟨_, _, q0, q1⟩ := hel i (by omega)
      obtain ⟨b, hb, _⟩ := DataW.trod_bool hub q0
      obtain ⟨v, ws, hv1, hw⟩ := rd_row hu hu' hc word_of q1 (hps' i (by omega))
      obtain rfl : V1 i = v := by simpa using hv1
      exact ⟨(b, ws), by simpa using hb, hw⟩)
    refine ⟨l, some a, cap, by rw [hl], by rw [hl]; exact hlc, hcm, flat_len zc_len l, ?_⟩
    rcases Nat.eq_zero_or_pos len with h0 | h0
    · exact .inl (by omega)
    · have hc0 := (hel 0 (by omega)).1
      have hs : a.spot = none := by
        cases hsp : a.spot with
        | none => rfl
        | some s =>
          simp only [Addr.add, Nat.zero_mul, if_true] at hc0
          unfold World.cell? at hc0
          rw [hsp] at hc0
          split at hc0 <;> simp at hc0
      obtain ⟨b, off, sp⟩ := a
      simp only at hs
      subst hs
      right
      refine ⟨b, off, rfl, ?_, (List.range len).flatMap (fun i => [V0 i, V1 i]), ?_, fun j u hj => ?_⟩
      · have : MemPlace.cell b (off + 0) ∈ ps := by
          have := (Prod.mk.inj hx).2
          rw [this]
          exact List.mem_append_left _ (List.mem_map.2 ⟨0, by simp; omega, rfl⟩)
        exact hps _ this
      · have hlen2 : ((List.range len).flatMap fun i => [V0 i, V1 i]).length = len * 2 := by
          have := flat_len (fk := fun (i : Nat) => [isB true, isB true]) (k := 2) (fun _ => rfl) (List.range len)
          rw [List.length_flatMap] at this ⊢
          simpa using this
        refine all2_of_get (by rw [flat_len zc_len, hlen2, hl]) (fun j S v hS hv => ?_)
        have hz := pair_get (fun p : Bool × List Nat => isB p.1) (fun p => isWords p.2) l j
        rw [show (l.flatMap fun a => [isB a.1, isWords a.2]) = l.flatMap zc from rfl, hS] at hz
        have hw := pair_get V0 V1 (List.range len) j
        rw [hv] at hw
        have hj : j / 2 < l.length := by
          rcases Nat.lt_or_ge (j / 2) l.length with h | h
          · exact h
          · rw [List.getElem?_eq_none h] at hz; cases hz
        rw [List.getElem?_eq_getElem hj] at hz
        rw [List.getElem?_range (by omega)] at hw
        simp only [Option.map_some, Option.some.injEq] at hz hw
        obtain ⟨k1, k2⟩ := hgl (j / 2) hj
        subst hz; subst hw
        by_cases hp : j % 2 = 0
        · rw [if_pos hp, if_pos hp, k1]; rfl
        · rw [if_neg hp, if_neg hp]; exact k2
      · have hw := pair_get V0 V1 (List.range len) j
        rw [hj] at hw
        have hjl : j / 2 < len := by
          rcases Nat.lt_or_ge (j / 2) len with h | h
          · exact h
          · rw [List.getElem?_eq_none (by simpa using h)] at hw; cases hw
        rw [List.getElem?_range hjl] at hw
        simp only [Option.map_some, Option.some.injEq] at hw
        obtain ⟨q0, q1, _, _⟩ := hel (j / 2) (by omega)
        rw [add_mk] at q0
        rw [add_mk] at q1
        by_cases hp : j % 2 = 0
        · rw [if_pos hp] at hw; subst hw
          rw [show off + j = off + j / 2 * 2 by omega]; exact q0
        · rw [if_neg hp] at hw; subst hw
          rw [show off + j = off + (j / 2 * 2 + 1) by omega]; exact q1
end
end Go.En
/- A law of layer 10, as it is stated. -/
namespace Go.Proofs.Ytehcoegofjmhfaa
open Go.En Go.RowKit
set_option linter.unusedVariables false
set_option maxRecDepth 10000
open Go.ChangeShapes
open Go.WideShapes
open Go.ChangeAt
open Go.Nt
open Go.Pz
theorem opens_ZpolyGcd : Opens Try.prog Try.f7 7 := by
  intro H enc W base args ds ps hval hA hlt
  rw [Try.params7] at hA hval
  obtain ⟨v0, vs0, d0, ds0, p0, q0, hargs, rfl, rfl, h0, r0⟩ := trodAll_cons hA
  obtain ⟨v1, vs1, d1, ds1, p1, q1, rfl, rfl, rfl, h1, r1⟩ := trodAll_cons r0
  obtain ⟨v2, vs2, d2, ds2, p2, q2, rfl, rfl, rfl, h2, r2⟩ := trodAll_cons r1
  obtain ⟨rfl, rfl, rfl⟩ := trodAll_nil r2
  obtain rfl : args = #[v0, v1, v2] := by cases args; simp_all
  obtain ⟨x0, o0⟩ := open_Zs un23 fs32 un4 un30 un52 (by kernel_rfl) (by kernel_rfl) (by kernel_rfl) (by kernel_rfl) (hval 0 23 v0 rfl rfl) h0 (fun x hx => hlt x (by simp [hx]))
  obtain ⟨x1, o1⟩ := open_Zs un23 fs32 un4 un30 un52 (by kernel_rfl) (by kernel_rfl) (by kernel_rfl) (by kernel_rfl) (hval 1 23 v1 rfl rfl) h1 (fun x hx => hlt x (by simp [hx]))
  obtain ⟨x2, o2⟩ := open_Zs un23 fs32 un4 un30 un52 (by kernel_rfl) (by kernel_rfl) (by kernel_rfl) (by kernel_rfl) (hval 2 23 v2 rfl rfl) h2 (fun x hx => hlt x (by simp [hx]))
  refine ⟨_, ?_, c_ZpolyGcd x0 x1 x2⟩
  exact ⟨o0, o1, o2, trivial⟩
theorem zpolyGcd_said : Rows.ZpolyGcdSaid :=
  OpenClaim.holds_of_wide 7 Try.f7 rfl rfl rfl rfl rfl rfl rfl ⟨rfl, rfl, rfl, rfl, rfl⟩ rfl rfl rfl rfl rfl (by kernel_rfl) Try.func7 (by kernel_rfl)
    (of_decide_eq_true (by kernel_rfl)) (by unfold Func.isWrapper; first | (rw [if_pos (by decide +kernel)]; kernel_rfl) | (rw [if_neg (by decide +kernel)]; exact ⟨rfl, rfl⟩))
    (fun os started H enc _ => lift_law (C := Try.checked) (s := Rows.zpolyGcdSpec) (by kernel_rfl) started (by kernel_rfl) Try.func7
      (ChangeSpec.witness6 (enc := enc) (C := Try.checked) false ⟨#[], #[.slice none 0 0, .slice none 0 0, .slice none 0 0], []⟩ 8 (by kernel_rfl) (by kernel_rfl) (by kernel_rfl) (by kernel_rfl))
      (by kernel_rfl) (by kernel_rfl) rfl rfl un4 (fun ds h => by match ds, h with | [d0, d1, d2], _ => rfl) opens_ZpolyGcd)
#print axioms zpolyGcd_said
end Go.Proofs.Ytehcoegofjmhfaa
