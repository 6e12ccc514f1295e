/- The law ZcharAdjugates, as it is stated, of the given program, for every input; no condition. -/
import Derived.Test.YtgkbekcpmbjbdaaQZcharAdjugates4
import Derived.Deep.SlicePairs
import Derived.Test.YtgkbekcpmbjbdaaRows
/- Contracts: sums, differences, multiples of polynomials. -/
namespace Go.Proofs.Ytgkbekcpmbjbdaa
open Go.En Go.RowKit
set_option linter.unusedVariables false
set_option maxRecDepth 10000
open Go.Nt
open Go.Pz
set_option maxHeartbeats 4000000 in
theorem zpoly_both {op : Int → Int → Int} {xs ys : List (Bool × List Nat)} {K L : Nat} (hx : Bd (vals xs) K) (hy : Bd (vals ys) K) (hop : ∀ i, (List.length (words (op (cf (vals xs) i) (cf (vals ys) i)).natAbs)) ≤ L) (hL : L ≤ 4000000000) (h0 : op 0 0 = 0) (hn : xs.length ≤ 1000000) (hm : ys.length ≤ 1000000) : Ctr Try.prog 97 [SlK 2 zc xs, SlK 2 zc ys, isOp Try.prog K op] (isP (both op (vals xs) (vals ys))) := by
  refine Ctr.intro Try.func97 rfl (by kernel_rfl) Try.ntmps97 rfl fun w0 F0 => ?_
  refine Tri.cv (Cv.wk (.cons (t := 0) (Has.t rfl) (.cons (t := 1) (Has.t rfl) (.cons (t := 2) (Has.t rfl) .nil)))) ?_
  refine Tri.fact (Has.lenLt (Has.t (t := 0) rfl)) fun lt0 => ?_
  refine Tri.fact (Has.lenLt (Has.t (t := 1) rfl)) fun lt1 => ?_
  obtain ⟨F, hF⟩ : ∃ F, F = (List.range (max xs.length ys.length)).map fun i => op (cf (vals xs) i) (cf (vals ys) i) := ⟨_, rfl⟩
  have hFl : F.length = max xs.length ys.length := by rw [hF, List.length_map, List.length_range]
  have hFb : Bd F L := fun i => by
    rw [hF, cf_tab]
    split
    · exact hop i
    · rw [Int.natAbs_zero, words_zero]; exact Nat.zero_le _
  refine Tri.seq fun K1 hK1 => ?_
  refine Tri.region ?_
  refine st (OK1.as (Has.cWK (k := 2) (fk := zc))) rfl ?_
  refine nl ?_
  refine At.thn (hK1 _ _ ?_); clear hK1
  refine Tri.seq fun K2 hK2 => ?_
  refine Tri.region ?_
  refine st (OK1.mv (Has.t rfl)) rfl ?_
  refine st (OK1.len sl34 (Has.t rfl)) rfl ?_
  refine st (OK1.mv (Has.t rfl)) rfl ?_
  refine st (OK1.len sl34 (Has.t rfl)) rfl ?_
  refine st (OK1.eq (OK1.maxI (Has.t rfl) (Has.t rfl)) ((show isI _ = isI ((max xs.length ys.length : Nat) : Int) from isI_eq (by omega)))) rfl ?_
  refine Ops.makeK (fk := zc) (u := (false, [])) (n := max xs.length ys.length) (c := max xs.length ys.length) sl34 ty44 zero44 (fun _ _ => ⟨rfl, nilM _ _, trivial⟩) zc_len by44 (Has.t' rfl rfl) (Has.t' rfl rfl) ⟨by omega, by omega⟩ rfl fun b1 => ?_
  refine st (OK1.as (Has.t rfl)) rfl ?_
  refine nl ?_
  refine At.thn (hK2 _ _ ?_); clear hK2
  refine Tri.cv (Cv.wk (.cons (t := 0) (Has.t rfl) (.cons (t := 1) (Has.t rfl) (.cons (t := 2) (Has.t rfl) (.cons (t := 6) (Has.t rfl) (.cons (t := 7) (Has.t rfl) .nil)))))) ?_
  refine Tri.seq fun K3 hK3 => ?_
  refine Tri.seq fun K4 hK4 => ?_
  refine Tri.region ?_
  refine st (OK1.mv (Has.t rfl)) rfl ?_
  refine st (OK1.len sl34 (Has.t rfl)) rfl ?_
  refine st (OK1.mv (Has.cI 0 rfl)) rfl ?_
  refine nl ?_
  refine At.thn (hK4 _ _ ?_); clear hK4
  refine Tri.block ?_
  refine Tri.loopF [0, 1, 2, 6, 7, 16] (fun (z : { i : Nat // i ≤ max xs.length ys.length }) => match z with | ⟨i, hi⟩ => [(17, isI (i : Int))]) (fun M => fun (z : { i : Nat // i ≤ max xs.length ys.length }) => match z with | ⟨i, hi⟩ => [(some b1, cellM ((fill (F.map nz) i (false, [])).flatMap zc))]) (fun (z : { i : Nat // i ≤ max xs.length ys.length }) => match z with | ⟨i, hi⟩ => max xs.length ys.length - i) (⟨0, Nat.zero_le _⟩) (Cv.mem (.cons (t := 17) (Has.t' rfl ?_) (.cons (t := 0) (Has.t rfl) (.cons (t := 1) (Has.t rfl) (.cons (t := 2) (Has.t rfl) (.cons (t := 6) (Has.t rfl) (.cons (t := 7) (Has.t rfl) (.cons (t := 16) (Has.t rfl) .nil))))))) ?_) ?_
  · rfl
  · exact memZ_eq (by rw [fill_zero, List.length_map, hFl])
  rintro ⟨i, hi⟩ K5 hK5
  refine Tri.cv (Cv.wk (.cons (t := 17) (Has.t rfl) (.cons (t := 0) (Has.t rfl) (.cons (t := 1) (Has.t rfl) (.cons (t := 2) (Has.t rfl) (.cons (t := 6) (Has.t rfl) (.cons (t := 7) (Has.t rfl) (.cons (t := 16) (Has.t rfl) .nil)))))))) ?_
  refine Tri.memEq (M' := [(some b1, cellM ((fill (F.map nz) i (false, [])).flatMap zc))]) rfl ?_
  refine Tri.seq fun K6 hK6 => ?_
  refine Tri.region ?_
  refine st (OK1.ltI (Has.t rfl) (Has.t rfl)) rfl ?_
  refine nl ?_
  refine At.thn (hK6 _ _ ?_); clear hK6
  refine Tri.seq fun K7 hK7 => ?_
  refine Tri.cond (Has.t rfl) (fun hc1 => ?_) (fun hc1 => ?_)
  · have hc1 := BP.t hc1
    refine Tri.skip ?_
    refine At.thn (hK7 _ _ ?_); clear hK7
    refine Tri.seq fun K8 hK8 => ?_
    refine Tri.block ?_
    refine Tri.seq fun K9 hK9 => ?_
    refine Tri.region ?_
    refine st (OK1.mv (Has.t rfl)) rfl ?_
    refine st (OK1.as (Has.t rfl)) rfl ?_
    refine nl ?_
    refine At.thn (hK9 _ _ ?_); clear hK9
    refine Tri.region ?_
    refine st (OK1.mv (Has.t rfl)) rfl ?_
    refine st (OK1.mv (Has.t rfl)) rfl ?_
    refine st (OK1.mv (Has.t rfl)) rfl ?_
    refine st (OK1.mv (Has.t rfl)) rfl ?_
    refine st (OK1.mv (Has.t rfl)) rfl ?_
    refine st (OK1.call (zpoly_at) (.cons (Has.t rfl) (.cons (Has.t rfl) .nil))) rfl ?_
    refine st (OK1.mv (Has.t rfl)) rfl ?_
    refine st (OK1.mv (Has.t rfl)) rfl ?_
    refine st (OK1.call (zpoly_at) (.cons (Has.t rfl) (.cons (Has.t rfl) .nil))) rfl ?_
    refine st (OK1.eq (OK1.callV ⟨(xs.getD i (false, []), ys.getD i (false, [])), hx.raw i, hy.raw i⟩ (Has.t rfl) (.cons (Has.t rfl) (.cons (Has.t rfl) .nil))) ((show isZ _ = Flat (zc (nz (op (cf (vals xs) i) (cf (vals ys) i)))) from isZ_eq (by rw [cf_vals, cf_vals])))) rfl ?_
    refine st (OK1.eq (OK1.ixWin sl34 ty44 (Has.t rfl) (Has.t rfl) ⟨by omega, by omega⟩) (isPtr_eq (by first | exact ixo0 | exact ixo2 | exact ixo1))) rfl ?_
    refine Ops.storeK (z := nz (op (cf (vals xs) i) (cf (vals ys) i))) zc_len (Has.t rfl) (Has.t rfl) (i := 0) rfl ty44 (by rw [fill_len _ _ _ (by rw [List.length_map]; omega), List.length_map]; omega) (M' := [(_, _)]) rfl ?_
    refine nl ?_
    refine At.bln ?_
    refine At.thn (hK8 _ _ ?_); clear hK8
    refine Tri.region ?_
    refine st (OK1.addI (Has.t rfl) (Has.cI 1 rfl) (by first | omega | assumption) (by first | omega | assumption)) rfl ?_
    refine st (OK1.mv (Has.t rfl)) rfl ?_
    refine nl ?_
    refine At.thn ?_
    refine hK5 (⟨i + 1, by omega⟩) _ _ ?_ (Cv.mem (.cons (t := 17) (Has.t' rfl ?_) (.cons (t := 0) (Has.t rfl) (.cons (t := 1) (Has.t rfl) (.cons (t := 2) (Has.t rfl) (.cons (t := 6) (Has.t rfl) (.cons (t := 7) (Has.t rfl) (.cons (t := 16) (Has.t rfl) .nil))))))) ?_)
    · show max xs.length ys.length - (i + 1) < max xs.length ys.length - i; omega
    · exact isI_eq (by omega)
    · exact memF_eq (by rw [List.getElem?_map, hF, List.getElem?_map, List.getElem?_range (by omega)]; rfl)
  · have hc1 := BP.f hc1
    refine Tri.exit ?_
    refine At.the ?_
    refine At.the ?_
    refine At.blh ?_
    refine At.thn (hK3 _ _ ?_); clear hK3
    refine Tri.cv (Cv.wk (.cons (t := 6) (Has.t rfl) (.cons (t := 7) (Has.t rfl) .nil))) ?_
    refine Tri.seq fun K10 hK10 => ?_
    refine Tri.cv (Cv.freezeK (t := 7) (i := 0) (ys := F.map nz) zc_len rfl rfl rfl (by rw [fill_len _ _ _ (by rw [List.length_map]; omega), List.length_map]; omega) (fill_done (by rw [List.length_map]; omega) (by rw [List.length_map, hFl]))) ?_
    refine Tri.memEq (M' := []) rfl ?_
    refine Tri.cv (Cv.wk (.cons (t := 6) (Has.t rfl) (.cons (t := 7) (Has.t rfl) .nil))) ?_
    refine Tri.region ?_
    refine st (OK1.mv (Has.t rfl)) rfl ?_
    refine st (OK1.call (zpoly_Norm (K := L) (by rw [vals_nz]; exact hFb) hL (by rw [List.length_map]; omega)) (.cons (Has.t rfl) .nil)) rfl ?_
    refine st (OK1.as (Has.t rfl)) rfl ?_
    refine nl ?_
    refine At.thn (hK10 _ _ ?_); clear hK10
    refine Tri.ret ?_
    refine rt1 (.inl rfl) Try.results97 rfl (.tmp (Has.t' rfl ?_) .nil)
    all_goals (exact isP_eq (by rw [vals_nz, hF]; unfold both; rw [vals_len, vals_len]))
set_option maxHeartbeats 4000000 in
theorem zpoly_Sub {xs ys : List (Bool × List Nat)} {K : Nat} (hx : Bd (vals xs) K) (hy : Bd (vals ys) K) (hK : K ≤ 3000000000) (hn : xs.length ≤ 1000000) (hm : ys.length ≤ 1000000) : Ctr Try.prog 105 [SlK 2 zc xs, SlK 2 zc ys] (isP (psub (vals xs) (vals ys))) := by
  refine Ctr.intro Try.func105 rfl (by kernel_rfl) Try.ntmps105 rfl fun w0 F0 => ?_
  refine Tri.cv (Cv.wk (.cons (t := 0) (Has.t rfl) (.cons (t := 1) (Has.t rfl) .nil))) ?_
  refine Tri.fact (Has.lenLt (Has.t (t := 0) rfl)) fun lt0 => ?_
  refine Tri.fact (Has.lenLt (Has.t (t := 1) rfl)) fun lt1 => ?_
  refine Tri.seq fun K1 hK1 => ?_
  refine Tri.region ?_
  refine st (OK1.as (Has.cWK (k := 2) (fk := zc))) rfl ?_
  refine nl ?_
  refine At.thn (hK1 _ _ ?_); clear hK1
  refine Tri.seq fun K2 hK2 => ?_
  refine Tri.region ?_
  refine st (OK1.mv (Has.t rfl)) rfl ?_
  refine st (OK1.mv (Has.t rfl)) rfl ?_
  refine st (OK1.call (zpoly_both (op := fun x y => x - y) (L := K + 1) hx hy (fun i => by have := nz_sub (cf (vals xs) i) (cf (vals ys) i); have := hx i; have := hy i; show (List.length (words (cf (vals xs) i - cf (vals ys) i).natAbs)) ≤ K + 1; omega) (by omega) (by rfl) hn hm) (.cons (Has.t rfl) (.cons (Has.t rfl) (.cons (Has.fn (fun i => zint_Sub (by have := i.2.1; omega) (by have := i.2.2; omega))) .nil)))) rfl ?_
  refine st (OK1.as (Has.t rfl)) rfl ?_
  refine nl ?_
  refine At.thn (hK2 _ _ ?_); clear hK2
  refine Tri.cv (Cv.wk (.cons (t := 4) (Has.t rfl) .nil)) ?_
  refine Tri.ret ?_
  refine rt1 (.inl rfl) Try.results105 rfl (.tmp (Has.t' rfl ?_) .nil)
  all_goals (rfl)
set_option maxHeartbeats 4000000 in
theorem zpoly_Same {xs ys : List (Bool × List Nat)} {K : Nat} (hx : Bd (vals xs) K) (hy : Bd (vals ys) K) (hK : K ≤ 3000000000) (hn : xs.length ≤ 1000000) (hm : ys.length ≤ 1000000) : Ctr Try.prog 50 [SlK 2 zc xs, SlK 2 zc ys] (isB (decide (psub (vals xs) (vals ys) = []))) := by
  refine Ctr.intro Try.func50 rfl (by kernel_rfl) Try.ntmps50 rfl fun w0 F0 => ?_
  refine Tri.cv (Cv.wk (.cons (t := 0) (Has.t rfl) (.cons (t := 1) (Has.t rfl) .nil))) ?_
  refine Tri.fact (Has.lenLt (Has.t (t := 0) rfl)) fun lt0 => ?_
  refine Tri.fact (Has.lenLt (Has.t (t := 1) rfl)) fun lt1 => ?_
  refine Tri.seq fun K1 hK1 => ?_
  refine Tri.region ?_
  refine st (OK1.as (Has.cB false)) rfl ?_
  refine nl ?_
  refine At.thn (hK1 _ _ ?_); clear hK1
  refine Tri.seq fun K2 hK2 => ?_
  refine Tri.region ?_
  refine st (OK1.mv (Has.t rfl)) rfl ?_
  refine st (OK1.mv (Has.t rfl)) rfl ?_
  refine st (OK1.call (zpoly_Sub hx hy hK hn hm) (.cons (Has.t rfl) (.cons (Has.t rfl) .nil))) rfl ?_
  refine st (OK1.len sl34 (Has.t rfl)) rfl ?_
  refine st (OK1.eqI (Has.t rfl) (Has.cI 0 rfl)) rfl ?_
  refine st (OK1.as (Has.t rfl)) rfl ?_
  refine nl ?_
  refine At.thn (hK2 _ _ ?_); clear hK2
  refine Tri.cv (Cv.wk (.cons (t := 4) (Has.t rfl) .nil)) ?_
  refine Tri.ret ?_
  refine rt1 (.inl rfl) Try.results50 rfl (.tmp (Has.t' rfl ?_) .nil)
  all_goals (exact isB_eq (decide_eq_decide.2 (by rw [List.length_map]; exact ⟨fun h => List.eq_nil_of_length_eq_zero (by omega), fun h => by rw [h]; rfl⟩)))
end Go.Proofs.Ytgkbekcpmbjbdaa
/- Contracts: contents, values. -/
namespace Go.Proofs.Ytgkbekcpmbjbdaa
open Go.En Go.RowKit
set_option linter.unusedVariables false
set_option maxRecDepth 10000
open Go.Nt
open Go.Pz
set_option maxHeartbeats 4000000 in
theorem zpoly_Of {xs : List Int} (hn : xs.length ≤ 400000) : Ctr Try.prog 51 [SlM isI xs] (isP (pnorm xs)) := by
  refine Ctr.intro Try.func51 rfl (by kernel_rfl) Try.ntmps51 rfl fun w0 F0 => ?_
  refine Tri.cv (Cv.wk (.cons (t := 0) (Has.t rfl) .nil)) ?_
  refine Tri.fact (Has.lenLt (Has.t (t := 0) rfl)) fun lt0 => ?_
  refine Tri.fact (Has.okI (Has.t (t := 0) rfl)) fun hr => ?_
  refine Tri.seq fun K1 hK1 => ?_
  refine Tri.region ?_
  refine st (OK1.as (Has.cWK (k := 2) (fk := zc))) rfl ?_
  refine nl ?_
  refine At.thn (hK1 _ _ ?_); clear hK1
  refine Tri.seq fun K2 hK2 => ?_
  refine Tri.region ?_
  refine Ops.cv (Cv.grow0K (α := Bool × List Nat) zc) ?_
  refine st (OK1.as (Has.cGr (α := Bool × List Nat))) rfl ?_
  refine nl ?_
  refine At.thn (hK2 _ _ ?_); clear hK2
  refine Tri.seq fun K3 hK3 => ?_
  refine Tri.seq fun K4 hK4 => ?_
  refine Tri.region ?_
  refine st (OK1.mv (Has.t rfl)) rfl ?_
  refine st (OK1.len sl117 (Has.t rfl)) rfl ?_
  refine st (OK1.mv (Has.cI 0 rfl)) rfl ?_
  refine nl ?_
  refine At.thn (hK4 _ _ ?_); clear hK4
  refine Tri.block ?_
  refine Tri.loopF [2, 6, 7] (fun (z : { z : Nat × Gr (Bool × List Nat) // z.1 ≤ xs.length }) => match z with | ⟨(i, g), hI⟩ => [(8, isI (i : Int)), (3, isGr g ((xs.take i).map nz).length)]) (fun M => fun (z : { z : Nat × Gr (Bool × List Nat) // z.1 ≤ xs.length }) => match z with | ⟨(i, g), hI⟩ => [grMK zc g ((xs.take i).map nz)]) (fun (z : { z : Nat × Gr (Bool × List Nat) // z.1 ≤ xs.length }) => match z with | ⟨(i, g), hI⟩ => xs.length - i) (⟨(0, Gr.nil), Nat.zero_le _⟩) (Cv.mem (.cons (t := 8) (Has.t' rfl ?_) (.cons (t := 3) (Has.t' rfl ?_) (.cons (t := 2) (Has.t rfl) (.cons (t := 6) (Has.t rfl) (.cons (t := 7) (Has.t rfl) .nil))))) ?_) ?_
  · rfl
  · rfl
  · rfl
  rintro ⟨⟨i, g⟩, hI⟩ K5 hK5
  refine Tri.cv (Cv.wk (.cons (t := 8) (Has.t rfl) (.cons (t := 3) (Has.t rfl) (.cons (t := 2) (Has.t rfl) (.cons (t := 6) (Has.t rfl) (.cons (t := 7) (Has.t rfl) .nil)))))) ?_
  refine Tri.memEq (M' := [grMK zc g ((xs.take i).map nz)]) rfl ?_
  simp only [] at hI
  have hyl : ((xs.take i).map nz).length = i := by rw [List.length_map, List.length_take]; omega
  refine Tri.seq fun K6 hK6 => ?_
  refine Tri.region ?_
  refine st (OK1.ltI (Has.t rfl) (Has.t rfl)) rfl ?_
  refine nl ?_
  refine At.thn (hK6 _ _ ?_); clear hK6
  refine Tri.seq fun K7 hK7 => ?_
  refine Tri.cond (Has.t rfl) (fun hc1 => ?_) (fun hc1 => ?_)
  · have hc1 := BP.t hc1
    refine Tri.skip ?_
    refine At.thn (hK7 _ _ ?_); clear hK7
    refine Tri.seq fun K8 hK8 => ?_
    refine Tri.block ?_
    refine Tri.seq fun K9 hK9 => ?_
    refine Tri.region ?_
    refine st (OK1.ixP sl117 ty2 (Has.t rfl) (Has.t rfl) ⟨by omega, by omega⟩ (getD_some (d := 0) (by first | omega | (simp only [Int.toNat_natCast, List.length_set]; omega)))) rfl ?_
    refine st (OK1.loadP1 (Has.t rfl) ty2) rfl ?_
    refine st (OK1.as (Has.t rfl)) rfl ?_
    refine nl ?_
    refine At.thn (hK9 _ _ ?_); clear hK9
    refine Tri.region ?_
    refine st (OK1.mv (Has.t rfl)) rfl ?_
    refine st (OK1.mv (Has.t rfl)) rfl ?_
    refine st (OK1.eq (OK1.call (zint_Of) (.cons (Has.t rfl) .nil)) ((show isZ _ = Flat (zc (nz (cf xs i))) from rfl))) rfl ?_
    refine st (OK1.buildS [isB false, SlM isU []] sl34 ty44 zero44 (fun _ _ => ⟨rfl, nilM _ _, trivial⟩) rfl rfl (.cons (Has.t rfl) rfl rfl rfl .nil) rfl (S := SlK 2 zc [nz (cf xs i)]) rfl) rfl ?_
    refine Ops.appendGK (fk := zc) (u := (false, [])) zc_len (by decide) (fun _ => inferInstance) sl34 ty44 zero44 (fun _ _ => ⟨rfl, nilM _ _, trivial⟩) by44 (Has.t rfl) (i := 0) rfl (Has.t rfl) (by rw [hyl]; show i + 1 ≤ _; omega) (by simp) rfl fun gr1 => ?_
    refine Ops.memEq (M' := [grMK _ _ _]) rfl ?_
    refine st (OK1.as (Has.t rfl)) rfl ?_
    refine nl ?_
    refine At.bln ?_
    refine At.thn (hK8 _ _ ?_); clear hK8
    refine Tri.region ?_
    refine st (OK1.addI (Has.t rfl) (Has.cI 1 rfl) (by first | omega | assumption) (by first | omega | assumption)) rfl ?_
    refine st (OK1.mv (Has.t rfl)) rfl ?_
    refine nl ?_
    refine At.thn ?_
    refine hK5 (⟨(i + 1, gr1), by show i + 1 ≤ _; omega⟩) _ _ ?_ (Cv.mem (.cons (t := 8) (Has.t' rfl ?_) (.cons (t := 3) (Has.t' rfl ?_) (.cons (t := 2) (Has.t rfl) (.cons (t := 6) (Has.t rfl) (.cons (t := 7) (Has.t rfl) .nil))))) ?_)
    · show xs.length - (i + 1) < xs.length - i; omega
    · exact isI_eq (by omega)
    · exact isGr_eq (by rw [← take_map_succ _ _ (by omega), List.length_append])
    · exact grMK_eq (take_map_succ _ _ (by omega))
  · have hc1 := BP.f hc1
    refine Tri.exit ?_
    refine At.the ?_
    refine At.the ?_
    refine At.blh ?_
    refine At.thn (hK3 _ _ ?_); clear hK3
    refine Tri.seq fun K10 hK10 => ?_
    refine Tri.cv (Cv.freezeGK (t := 3) (i := 0) (ys := (xs.take i).map nz) zc_len rfl rfl rfl) ?_
    refine Tri.memEq (M' := []) rfl ?_
    refine Tri.cv (Cv.wk (.cons (t := 2) (Has.t rfl) (.cons (t := 6) (Has.t rfl) (.cons (t := 7) (Has.t rfl) (.cons (t := 8) (Has.t rfl) (.cons (t := 3) (Has.t rfl) (.cons (t := 9) (Has.t rfl) .nil))))))) ?_
    refine Tri.region ?_
    refine st (OK1.mv (Has.t rfl)) rfl ?_
    refine st (OK1.call (zpoly_Norm (K := 1) (by rw [vals_nz, show xs.take i = xs from List.take_of_length_le (by omega)]; exact bd64 hr) (by omega) (by rw [List.length_map, List.length_take]; omega)) (.cons (Has.t rfl) .nil)) rfl ?_
    refine st (OK1.as (Has.t rfl)) rfl ?_
    refine nl ?_
    refine At.thn (hK10 _ _ ?_); clear hK10
    refine Tri.cv (Cv.wk (.cons (t := 2) (Has.t rfl) .nil)) ?_
    refine Tri.ret ?_
    refine rt1 (.inl rfl) Try.results51 rfl (.tmp (Has.t' rfl ?_) .nil)
    all_goals (exact isP_eq (by rw [vals_nz, show xs.take i = xs from List.take_of_length_le (by omega)]))
end Go.Proofs.Ytgkbekcpmbjbdaa
/- Polynomials over the whole numbers: what the document's answers are. No program here, but the numbers' cells. -/
namespace Go.Pz
open Go.Nt Go.En
theorem normal_dead {z : Int} (h : (0 < (((List.length (words z.natAbs)) : Nat) : Int) ∧ dig z.natAbs ((List.length (words z.natAbs)) - 1) = 0) ∨ ((((List.length (words z.natAbs)) : Nat) : Int) = 0 ∧ z < 0)) : False := by
  rcases h with ⟨h1, h2⟩ | ⟨h1, h2⟩
  · refine dig_top (n := z.natAbs) (fun e => ?_) h2
    rw [e, words_zero] at h1; exact absurd h1 (by decide)
  · have := nw_lt z.natAbs
    rw [show (List.length (words z.natAbs)) = 0 by omega, Nat.pow_zero] at this
    omega
/-- lists of a size that is looked at -/
def fewB (xs : List (Bool × List Nat)) (n w : Int) : Bool := (xs.take 100).all (fun p => decide ((p.2.length : Int) ≤ w)) && decide ((xs.length : Int) ≤ n)
theorem fewB_no {xs : List (Bool × List Nat)} {n w : Int} {i : Nat} (hi : i < xs.length) (h1 : i < 100) (h : ¬ ((xs.getD i (false, [])).2.length : Int) ≤ w) : fewB xs n w = false := by
  unfold fewB
  have hm : xs.getD i (false, []) ∈ xs.take 100 := by
    rw [List.getD, List.getElem?_eq_getElem hi]
    exact List.mem_take_iff_getElem.2 ⟨i, by omega, rfl⟩
  have : (xs.take 100).all (fun p => decide ((p.2.length : Int) ≤ w)) = false := by
    rw [List.all_eq_false]
    exact ⟨_, hm, by rw [decide_eq_true_eq]; exact h⟩
  rw [this]; rfl
theorem fewB_yes {xs : List (Bool × List Nat)} {n w : Int} {i : Nat} (hi : xs.length ≤ i ∨ 100 ≤ i) (h : ∀ j, j < i → ((xs.getD j (false, [])).2.length : Int) ≤ w) : fewB xs n w = decide ((xs.length : Int) ≤ n) := by
  unfold fewB
  have : (xs.take 100).all (fun p => decide ((p.2.length : Int) ≤ w)) = true := by
    rw [List.all_eq_true]
    intro p hp
    obtain ⟨j, hj, rfl⟩ := List.mem_take_iff_getElem.1 hp
    have := h j (by omega)
    rw [List.getD, List.getElem?_eq_getElem (by omega)] at this
    exact decide_eq_true this
  rw [this]; rfl
theorem fewB_bd {xs : List (Bool × List Nat)} {n w : Int} {N K : Nat} (ok : ∀ p ∈ xs, (∀ y ∈ p.2, y < 18446744073709551616) ∧ p.2.length ≤ 9223372036854775807) (h : fewB xs n w = true) (hn : n = (N : Int)) (hw : w = (K : Int)) (h1 : N ≤ 100) : xs.length ≤ N ∧ Bd (vals xs) K := by
  unfold fewB at h
  rw [Bool.and_eq_true, decide_eq_true_eq, List.all_eq_true] at h
  subst hn; subst hw
  refine ⟨by omega, fun i => ?_⟩
  rw [cf_vals, zv_nw]
  rcases Nat.lt_or_ge i xs.length with hi | hi
  · rw [List.getD, List.getElem?_eq_getElem hi]
    have h2 := h.1 xs[i] (List.mem_take_iff_getElem.2 ⟨i, by omega, rfl⟩)
    rw [decide_eq_true_eq] at h2
    exact Nat.le_trans (nw_val (ok _ (List.getElem_mem hi)).1) (by show xs[i].2.length ≤ K; omega)
  · rw [List.getD, List.getElem?_eq_none (by omega)]
    show (List.length (words (val []))) ≤ K
    rw [show val [] = 0 from rfl, words_zero]; exact Nat.zero_le _
end Go.Pz
/- Contracts: the document's answers on polynomials. -/
namespace Go.Proofs.Ytgkbekcpmbjbdaa
open Go.En Go.RowKit
set_option linter.unusedVariables false
set_option maxRecDepth 10000
open Go.Nt
open Go.Pz
set_option maxHeartbeats 4000000 in
theorem ref10_Few {xs : List (Bool × List Nat)} {n w : Int} : Ctr Try.prog 16 [SlK 2 zc xs, isI n, isI w] (isB (fewB xs n w)) := by
  refine Ctr.intro Try.func16 rfl (by kernel_rfl) Try.ntmps16 rfl fun w0 F0 => ?_
  refine Tri.cv (Cv.wk (.cons (t := 0) (Has.t rfl) (.cons (t := 1) (Has.t rfl) (.cons (t := 2) (Has.t rfl) .nil)))) ?_
  refine Tri.fact (Has.lenLt (Has.t (t := 0) rfl)) fun lt0 => ?_
  refine Tri.fact (Has.rngI (Has.t (t := 1) rfl)) fun lt1 => ?_
  refine Tri.fact (Has.rngI (Has.t (t := 2) rfl)) fun lt2 => ?_
  refine Tri.seq fun K1 hK1 => ?_
  refine Tri.region ?_
  refine st (OK1.as (Has.cB false)) rfl ?_
  refine nl ?_
  refine At.thn (hK1 _ _ ?_); clear hK1
  refine Tri.seq fun K2 hK2 => ?_
  refine Tri.seq fun K3 hK3 => ?_
  refine Tri.region ?_
  refine st (OK1.as (Has.cI 0 rfl)) rfl ?_
  refine nl ?_
  refine At.thn (hK3 _ _ ?_); clear hK3
  refine Tri.block ?_
  refine Tri.loopF [0, 1, 2] (fun (z : { i : Nat // i ≤ xs.length ∧ i ≤ 100 ∧ ∀ j, j < i → ((xs.getD j (false, [])).2.length : Int) ≤ w }) => match z with | ⟨i, hi⟩ => [(7, isI (i : Int))]) (fun M => fun (z : { i : Nat // i ≤ xs.length ∧ i ≤ 100 ∧ ∀ j, j < i → ((xs.getD j (false, [])).2.length : Int) ≤ w }) => match z with | ⟨i, hi⟩ => []) (fun (z : { i : Nat // i ≤ xs.length ∧ i ≤ 100 ∧ ∀ j, j < i → ((xs.getD j (false, [])).2.length : Int) ≤ w }) => match z with | ⟨i, hi⟩ => xs.length - i) (⟨0, Nat.zero_le _, by omega, fun j h => absurd h (Nat.not_lt_zero _)⟩) (Cv.mem (.cons (t := 7) (Has.t' rfl ?_) (.cons (t := 0) (Has.t rfl) (.cons (t := 1) (Has.t rfl) (.cons (t := 2) (Has.t rfl) .nil)))) ?_) ?_
  · rfl
  · rfl
  rintro ⟨i, hi, h1, hj⟩ K4 hK4
  refine Tri.cv (Cv.wk (.cons (t := 7) (Has.t rfl) (.cons (t := 0) (Has.t rfl) (.cons (t := 1) (Has.t rfl) (.cons (t := 2) (Has.t rfl) .nil))))) ?_
  refine Tri.memEq (M' := []) rfl ?_
  refine Tri.seq fun K5 hK5 => ?_
  refine Tri.seq fun K6 hK6 => ?_
  refine Tri.region ?_
  refine st (OK1.mv (Has.t rfl)) rfl ?_
  refine st (OK1.mv (Has.t rfl)) rfl ?_
  refine st (OK1.len sl22 (Has.t rfl)) rfl ?_
  refine st (OK1.ltI (Has.t rfl) (Has.t rfl)) rfl ?_
  refine st (OK1.mv (Has.t rfl)) rfl ?_
  refine stT rfl rfl (fun hg => have hg' := BP.t hg; OK1.mv (Has.t rfl)) rfl ?_
  refine stT rfl rfl (fun hg => have hg' := BP.t hg; OK1.ltI (Has.g rfl hg) (Has.cI 100 rfl)) rfl ?_
  refine st (OK1.pickAnd (Has.t rfl) (fun h => Has.g rfl h)) rfl ?_
  refine nl ?_
  refine At.thn (hK6 _ _ ?_); clear hK6
  refine Tri.cond (Has.t rfl) (fun hc1 => ?_) (fun hc1 => ?_)
  · have hc1 := BP.t hc1
    refine Tri.skip ?_
    refine At.thn (hK5 _ _ ?_); clear hK5
    refine Tri.seq fun K7 hK7 => ?_
    refine Tri.block ?_
    refine Tri.seq fun K8 hK8 => ?_
    refine Tri.region ?_
    refine st (OK1.mv (Has.t rfl)) rfl ?_
    refine st (OK1.mv (Has.t rfl)) rfl ?_
    refine st (OK1.ixK sl22 ty44 (Has.t rfl) (Has.t rfl) zc_len ⟨by omega, by omega⟩ (getD_some (d := (false, [])) (by first | omega | (simp only [Int.toNat_natCast, List.length_set]; omega)))) rfl ?_
    refine st (OK1.fieldAddrP (Has.t rfl) fld44_1 ty42 (Ss' := [_]) rfl) rfl ?_
    refine st (OK1.loadP1 (Has.t rfl) ty42) rfl ?_
    refine st (OK1.len sl42 (Has.t rfl)) rfl ?_
    refine st (OK1.mv (Has.t rfl)) rfl ?_
    refine st (OK1.gtI (Has.t rfl) (Has.t rfl)) rfl ?_
    refine nl ?_
    refine At.thn (hK8 _ _ ?_); clear hK8
    refine Tri.cond (Has.t rfl) (fun hc2 => ?_) (fun hc2 => ?_)
    · have hc2 := BP.t hc2
      have hNo : ¬ ((xs.getD i (false, [])).2.length : Int) ≤ w := (by simp only [Int.toNat_natCast] at hc2; omega)
      refine Tri.seq fun K9 hK9 => ?_
      refine Tri.region ?_
      refine st (OK1.as (Has.cB false)) rfl ?_
      refine nl ?_
      refine At.thn (hK9 _ _ ?_); clear hK9
      refine Tri.ret ?_
      refine At.blr ?_
      refine At.thr ?_
      refine At.thr ?_
      refine At.blr ?_
      refine At.thr ?_
      refine rt1 (.inl rfl) Try.results16 rfl (.tmp (Has.t' rfl ?_) .nil)
      all_goals (exact isB_eq (fewB_no (by omega) (by omega) hNo).symm)
    · have hc2 := BP.f hc2
      have hLe : ((xs.getD i (false, [])).2.length : Int) ≤ w := (by simp only [Int.toNat_natCast] at hc2; omega)
      refine Tri.skip ?_
      refine At.bln ?_
      refine At.thn (hK7 _ _ ?_); clear hK7
      refine Tri.region ?_
      refine st (OK1.mv (Has.t rfl)) rfl ?_
      refine st (OK1.addI (Has.t rfl) (Has.cI 1 rfl) (by first | omega | assumption) (by first | omega | assumption)) rfl ?_
      refine st (OK1.as (Has.t rfl)) rfl ?_
      refine nl ?_
      refine At.thn ?_
      refine hK4 (⟨i + 1, by omega, by omega, fun j h => by rcases Nat.lt_or_ge j i with h2 | h2; exact hj j h2; rw [show j = i by omega]; exact hLe⟩) _ _ ?_ (Cv.mem (.cons (t := 7) (Has.t' rfl ?_) (.cons (t := 0) (Has.t rfl) (.cons (t := 1) (Has.t rfl) (.cons (t := 2) (Has.t rfl) .nil)))) ?_)
      · show xs.length - (i + 1) < xs.length - i; omega
      · exact isI_eq (by omega)
      · rfl
  · have hc1 := BP.f hc1
    refine Tri.exit ?_
    refine At.the ?_
    refine At.the ?_
    refine At.blh ?_
    refine At.thn (hK2 _ _ ?_); clear hK2
    refine Tri.cv (Cv.wk (.cons (t := 0) (Has.t rfl) (.cons (t := 1) (Has.t rfl) .nil))) ?_
    refine Tri.seq fun K10 hK10 => ?_
    refine Tri.region ?_
    refine st (OK1.mv (Has.t rfl)) rfl ?_
    refine st (OK1.len sl22 (Has.t rfl)) rfl ?_
    refine st (OK1.mv (Has.t rfl)) rfl ?_
    refine st (OK1.leI (Has.t rfl) (Has.t rfl)) rfl ?_
    refine st (OK1.as (Has.t rfl)) rfl ?_
    refine nl ?_
    refine At.thn (hK10 _ _ ?_); clear hK10
    refine Tri.cv (Cv.wk (.cons (t := 6) (Has.t rfl) .nil)) ?_
    refine Tri.ret ?_
    refine rt1 (.inl rfl) Try.results16 rfl (.tmp (Has.t' rfl ?_) .nil)
    all_goals (exact isB_eq (fewB_yes (by omega) hj).symm)
end Go.Proofs.Ytgkbekcpmbjbdaa
/- Contracts: the document's matrices. -/
namespace Go.Proofs.Ytgkbekcpmbjbdaa
open Go.En Go.RowKit
set_option linter.unusedVariables false
set_option maxRecDepth 10000
open Go.Nt
open Go.Pz
open Go.Mz
open Go.Dt
set_option maxHeartbeats 4000000 in
theorem ref11_Formed {r c : Int} {xs : List (Bool × List Nat)} : Ctr Try.prog 58 [isM r c xs] (isB (formB r c xs.length)) := by
  refine Ctr.intro Try.func58 rfl (by kernel_rfl) Try.ntmps58 rfl fun w0 F0 => ?_
  refine Tri.cv (Cv.wk (.cons (t := 0) (Has.t rfl) .nil)) ?_
  refine Tri.seq fun K1 hK1 => ?_
  refine Tri.region ?_
  refine Ops.box (Has.t rfl) rfl fun b1 => ?_
  refine st (OK1.as (Has.cB false)) rfl ?_
  refine nl ?_
  refine At.thn (hK1 _ _ ?_); clear hK1
  refine Tri.seq fun K2 hK2 => ?_
  refine Tri.region ?_
  refine st (OK1.fieldAddr (Has.t rfl) fld24_0 ty3) rfl ?_
  refine st (OK1.load1 (Has.t rfl) (i := 0) rfl ty3 rfl) rfl ?_
  refine st (OK1.geI (Has.t rfl) (Has.cI 0 rfl)) rfl ?_
  refine st (OK1.mv (Has.t rfl)) rfl ?_
  refine stT rfl rfl (fun hg => have hg' := BP.t hg; OK1.fieldAddr (Has.t rfl) fld24_0 ty3) rfl ?_
  refine stT rfl rfl (fun hg => have hg' := BP.t hg; OK1.load1 (Has.g rfl hg) (i := 0) rfl ty3 rfl) rfl ?_
  refine stT rfl rfl (fun hg => have hg' := BP.t hg; OK1.leI (Has.g rfl hg) (Has.cI 64 rfl)) rfl ?_
  refine st (OK1.pickAnd (Has.t rfl) (fun h => Has.g rfl h)) rfl ?_
  refine st (OK1.mv (Has.t rfl)) rfl ?_
  refine stT rfl rfl (fun hg => have hg' := BP.t hg; OK1.fieldAddr (Has.t rfl) fld24_1 ty3) rfl ?_
  refine stT rfl rfl (fun hg => have hg' := BP.t hg; OK1.load1 (Has.g rfl hg) (i := 0) rfl ty3 rfl) rfl ?_
  refine stT rfl rfl (fun hg => have hg' := BP.t hg; OK1.geI (Has.g rfl hg) (Has.cI 0 rfl)) rfl ?_
  refine st (OK1.pickAnd (Has.t rfl) (fun h => Has.g rfl h)) rfl ?_
  refine st (OK1.mv (Has.t rfl)) rfl ?_
  refine stT rfl rfl (fun hg => have hg' := BP.t hg; OK1.fieldAddr (Has.t rfl) fld24_1 ty3) rfl ?_
  refine stT rfl rfl (fun hg => have hg' := BP.t hg; OK1.load1 (Has.g rfl hg) (i := 0) rfl ty3 rfl) rfl ?_
  refine stT rfl rfl (fun hg => have hg' := BP.t hg; OK1.leI (Has.g rfl hg) (Has.cI 64 rfl)) rfl ?_
  refine st (OK1.pickAnd (Has.t rfl) (fun h => Has.g rfl h)) rfl ?_
  refine st (OK1.mv (Has.t rfl)) rfl ?_
  refine stT rfl rfl (fun hg => have hg' := BP.t hg; OK1.fieldAddr (Has.t rfl) fld24_2 ty22) rfl ?_
  refine stT rfl rfl (fun hg => have hg' := BP.t hg; OK1.load1 (Has.g rfl hg) (i := 0) rfl ty22 rfl) rfl ?_
  refine stT rfl rfl (fun hg => have hg' := BP.t hg; OK1.len sl22 (Has.g rfl hg)) rfl ?_
  refine stT rfl rfl (fun hg => have hg' := BP.t hg; OK1.fieldAddr (Has.t rfl) fld24_0 ty3) rfl ?_
  refine stT rfl rfl (fun hg => have hg' := BP.t hg; OK1.load1 (Has.g rfl hg) (i := 0) rfl ty3 rfl) rfl ?_
  refine stT rfl rfl (fun hg => have hg' := BP.t hg; OK1.fieldAddr (Has.t rfl) fld24_1 ty3) rfl ?_
  refine stT rfl rfl (fun hg => have hg' := BP.t hg; OK1.load1 (Has.g rfl hg) (i := 0) rfl ty3 rfl) rfl ?_
  refine stT rfl rfl (fun hg => have hg' := BP.t hg; OK1.mulI (Has.g rfl hg) (Has.g rfl hg) (by have := mul_bnd ⟨⟨hg'.1.1.1, hg'.1.1.2⟩, hg'.1.2, hg'.2⟩; omega) (by have := mul_bnd ⟨⟨hg'.1.1.1, hg'.1.1.2⟩, hg'.1.2, hg'.2⟩; omega)) rfl ?_
  refine stT rfl rfl (fun hg => have hg' := BP.t hg; OK1.eqI (Has.g rfl hg) (Has.g rfl hg)) rfl ?_
  refine st (OK1.pickAnd (Has.t rfl) (fun h => Has.g rfl h)) rfl ?_
  refine st (OK1.as (Has.t rfl)) rfl ?_
  refine nl ?_
  refine At.thn (hK2 _ _ ?_); clear hK2
  refine Tri.cv (Cv.wk (.cons (t := 2) (Has.t rfl) .nil)) ?_
  refine Tri.ret ?_
  refine rt1 (.inl rfl) Try.results58 rfl (.tmp (Has.t' rfl ?_) .nil)
  all_goals (exact isB_eq (by unfold formB; simp only [Bool.and_assoc]))
set_option maxHeartbeats 4000000 in
theorem ref11_Few {r c n w : Int} {xs : List (Bool × List Nat)} : Ctr Try.prog 10 [isM r c xs, isI n, isI w] (isB (decide (r ≤ n) && decide (c ≤ n) && fewB xs 100 w)) := by
  refine Ctr.intro Try.func10 rfl (by kernel_rfl) Try.ntmps10 rfl fun w0 F0 => ?_
  refine Tri.cv (Cv.wk (.cons (t := 0) (Has.t rfl) (.cons (t := 1) (Has.t rfl) (.cons (t := 2) (Has.t rfl) .nil)))) ?_
  refine Tri.fact (Has.rngI (Has.t (t := 1) rfl)) fun lt1 => ?_
  refine Tri.fact (Has.rngI (Has.t (t := 2) rfl)) fun lt2 => ?_
  refine Tri.seq fun K1 hK1 => ?_
  refine Tri.region ?_
  refine Ops.box (Has.t rfl) rfl fun b1 => ?_
  refine st (OK1.as (Has.cB false)) rfl ?_
  refine nl ?_
  refine At.thn (hK1 _ _ ?_); clear hK1
  refine Tri.seq fun K2 hK2 => ?_
  refine Tri.region ?_
  refine st (OK1.fieldAddr (Has.t rfl) fld24_0 ty3) rfl ?_
  refine st (OK1.load1 (Has.t rfl) (i := 0) rfl ty3 rfl) rfl ?_
  refine st (OK1.mv (Has.t rfl)) rfl ?_
  refine st (OK1.leI (Has.t rfl) (Has.t rfl)) rfl ?_
  refine st (OK1.mv (Has.t rfl)) rfl ?_
  refine stT rfl rfl (fun hg => have hg' := BP.t hg; OK1.fieldAddr (Has.t rfl) fld24_1 ty3) rfl ?_
  refine stT rfl rfl (fun hg => have hg' := BP.t hg; OK1.load1 (Has.g rfl hg) (i := 0) rfl ty3 rfl) rfl ?_
  refine stT rfl rfl (fun hg => have hg' := BP.t hg; OK1.mv (Has.t rfl)) rfl ?_
  refine stT rfl rfl (fun hg => have hg' := BP.t hg; OK1.leI (Has.g rfl hg) (Has.g rfl hg)) rfl ?_
  refine st (OK1.pickAnd (Has.t rfl) (fun h => Has.g rfl h)) rfl ?_
  refine st (OK1.mv (Has.t rfl)) rfl ?_
  refine stT rfl rfl (fun hg => have hg' := BP.t hg; OK1.fieldAddr (Has.t rfl) fld24_2 ty22) rfl ?_
  refine stT rfl rfl (fun hg => have hg' := BP.t hg; OK1.load1 (Has.g rfl hg) (i := 0) rfl ty22 rfl) rfl ?_
  refine stT rfl rfl (fun hg => have hg' := BP.t hg; OK1.mv (Has.t rfl)) rfl ?_
  refine stT rfl rfl (fun hg => have hg' := BP.t hg; OK1.call (ref10_Few) (.cons (Has.g rfl hg) (.cons (Has.cI 100 rfl) (.cons (Has.g rfl hg) .nil)))) rfl ?_
  refine st (OK1.pickAnd (Has.t rfl) (fun h => Has.g rfl h)) rfl ?_
  refine st (OK1.as (Has.t rfl)) rfl ?_
  refine nl ?_
  refine At.thn (hK2 _ _ ?_); clear hK2
  refine Tri.cv (Cv.wk (.cons (t := 6) (Has.t rfl) .nil)) ?_
  refine Tri.ret ?_
  refine rt1 (.inl rfl) Try.results10 rfl (.tmp (Has.t' rfl ?_) .nil)
  all_goals (rfl)
end Go.Proofs.Ytgkbekcpmbjbdaa
/- Contracts: the document's answers on matrices. -/
namespace Go.Proofs.Ytgkbekcpmbjbdaa
open Go.En Go.RowKit
set_option linter.unusedVariables false
set_option maxRecDepth 10000
open Go.Nt
open Go.Pz
open Go.Mz
open Go.Hn
open Go.Hp
open Go.Dt
set_option maxHeartbeats 4000000 in
theorem ref11_None {r c : Int} {xs : List (Bool × List Nat)} : Ctr Try.prog 13 [isM r c xs] (isB (decide (r = 0) && decide (c = 0) && decide ((xs.length : Int) = 0))) := by
  refine Ctr.intro Try.func13 rfl (by kernel_rfl) Try.ntmps13 rfl fun w0 F0 => ?_
  refine Tri.cv (Cv.wk (.cons (t := 0) (Has.t rfl) .nil)) ?_
  refine Tri.seq fun K1 hK1 => ?_
  refine Tri.region ?_
  refine Ops.box (Has.t rfl) rfl fun b1 => ?_
  refine st (OK1.as (Has.cB false)) rfl ?_
  refine nl ?_
  refine At.thn (hK1 _ _ ?_); clear hK1
  refine Tri.seq fun K2 hK2 => ?_
  refine Tri.region ?_
  refine st (OK1.fieldAddr (Has.t rfl) fld24_0 ty3) rfl ?_
  refine st (OK1.load1 (Has.t rfl) (i := 0) rfl ty3 rfl) rfl ?_
  refine st (OK1.eqI (Has.t rfl) (Has.cI 0 rfl)) rfl ?_
  refine st (OK1.mv (Has.t rfl)) rfl ?_
  refine stT rfl rfl (fun hg => have hg' := BP.t hg; OK1.fieldAddr (Has.t rfl) fld24_1 ty3) rfl ?_
  refine stT rfl rfl (fun hg => have hg' := BP.t hg; OK1.load1 (Has.g rfl hg) (i := 0) rfl ty3 rfl) rfl ?_
  refine stT rfl rfl (fun hg => have hg' := BP.t hg; OK1.eqI (Has.g rfl hg) (Has.cI 0 rfl)) rfl ?_
  refine st (OK1.pickAnd (Has.t rfl) (fun h => Has.g rfl h)) rfl ?_
  refine st (OK1.mv (Has.t rfl)) rfl ?_
  refine stT rfl rfl (fun hg => have hg' := BP.t hg; OK1.fieldAddr (Has.t rfl) fld24_2 ty22) rfl ?_
  refine stT rfl rfl (fun hg => have hg' := BP.t hg; OK1.load1 (Has.g rfl hg) (i := 0) rfl ty22 rfl) rfl ?_
  refine stT rfl rfl (fun hg => have hg' := BP.t hg; OK1.len sl22 (Has.g rfl hg)) rfl ?_
  refine stT rfl rfl (fun hg => have hg' := BP.t hg; OK1.eqI (Has.g rfl hg) (Has.cI 0 rfl)) rfl ?_
  refine st (OK1.pickAnd (Has.t rfl) (fun h => Has.g rfl h)) rfl ?_
  refine st (OK1.as (Has.t rfl)) rfl ?_
  refine nl ?_
  refine At.thn (hK2 _ _ ?_); clear hK2
  refine Tri.cv (Cv.wk (.cons (t := 2) (Has.t rfl) .nil)) ?_
  refine Tri.ret ?_
  refine rt1 (.inl rfl) Try.results13 rfl (.tmp (Has.t' rfl ?_) .nil)
  all_goals (rfl)
set_option maxHeartbeats 4000000 in
theorem ref11_Normal {r c : Int} {l : List Int} {K : Nat} (hx : Bd l K) (hK : K ≤ 400000000) (hm : l.length ≤ 1000000) : Ctr Try.prog 32 [isM r c (l.map nz)] (isB (formB r c l.length)) := by
  refine Ctr.intro Try.func32 rfl (by kernel_rfl) Try.ntmps32 rfl fun w0 F0 => ?_
  refine Tri.cv (Cv.wk (.cons (t := 0) (Has.t rfl) .nil)) ?_
  have hll : (l.map nz).length = l.length := List.length_map _
  refine Tri.seq fun K1 hK1 => ?_
  refine Tri.region ?_
  refine Ops.box (Has.t rfl) rfl fun b1 => ?_
  refine st (OK1.as (Has.cB false)) rfl ?_
  refine nl ?_
  refine At.thn (hK1 _ _ ?_); clear hK1
  refine Tri.seq fun K2 hK2 => ?_
  refine Tri.seq fun K3 hK3 => ?_
  refine Tri.region ?_
  refine st (OK1.as (Has.cI 0 rfl)) rfl ?_
  refine nl ?_
  refine At.thn (hK3 _ _ ?_); clear hK3
  refine Tri.block ?_
  refine Tri.loopF [1] (fun (z : { i : Nat // i ≤ l.length }) => match z with | ⟨i, hi⟩ => [(3, isI (i : Int))]) (fun M => fun (z : { i : Nat // i ≤ l.length }) => match z with | ⟨i, hi⟩ => M) (fun (z : { i : Nat // i ≤ l.length }) => match z with | ⟨i, hi⟩ => l.length - i) (⟨0, Nat.zero_le _⟩) (Cv.mem (.cons (t := 3) (Has.t' rfl ?_) (.cons (t := 1) (Has.t rfl) .nil)) ?_) ?_
  · rfl
  · rfl
  rintro ⟨i, hi⟩ K4 hK4
  refine Tri.cv (Cv.wk (.cons (t := 3) (Has.t rfl) (.cons (t := 1) (Has.t rfl) .nil))) ?_
  have hbi := hx i
  refine Tri.seq fun K5 hK5 => ?_
  refine Tri.seq fun K6 hK6 => ?_
  refine Tri.region ?_
  refine st (OK1.mv (Has.t rfl)) rfl ?_
  refine st (OK1.fieldAddr (Has.t rfl) fld24_2 ty22) rfl ?_
  refine st (OK1.load1 (Has.t rfl) (i := 0) rfl ty22 rfl) rfl ?_
  refine st (OK1.len sl22 (Has.t rfl)) rfl ?_
  refine st (OK1.ltI (Has.t rfl) (Has.t rfl)) rfl ?_
  refine nl ?_
  refine At.thn (hK6 _ _ ?_); clear hK6
  refine Tri.cond (Has.t rfl) (fun hc1 => ?_) (fun hc1 => ?_)
  · have hc1 := BP.t hc1
    refine Tri.skip ?_
    refine At.thn (hK5 _ _ ?_); clear hK5
    refine Tri.seq fun K7 hK7 => ?_
    refine Tri.block ?_
    refine Tri.seq fun K8 hK8 => ?_
    refine Tri.region ?_
    refine st (OK1.fieldAddr (Has.t rfl) fld24_2 ty22) rfl ?_
    refine st (OK1.load1 (Has.t rfl) (i := 0) rfl ty22 rfl) rfl ?_
    refine st (OK1.mv (Has.t rfl)) rfl ?_
    refine st (OK1.ixK sl22 ty44 (Has.t rfl) (Has.t rfl) zc_len ⟨by omega, by omega⟩ (getZ (i := i) (by omega))) rfl ?_
    refine st (OK1.fieldAddrP (Has.t rfl) fld44_1 ty42 (Ss' := [_]) rfl) rfl ?_
    refine st (OK1.eq (OK1.loadP1 (Has.t rfl) ty42) ((show isWords _ = isWords (words (cf l i).natAbs) from rfl))) rfl ?_
    refine st (OK1.len sl42 (Has.t rfl)) rfl ?_
    refine st (OK1.as (Has.t rfl)) rfl ?_
    refine nl ?_
    refine At.thn (hK8 _ _ ?_); clear hK8
    refine Tri.seq fun K9 hK9 => ?_
    refine Tri.region ?_
    refine st (OK1.mv (Has.t rfl)) rfl ?_
    refine st (OK1.gtI (Has.t rfl) (Has.cI 0 rfl)) rfl ?_
    refine st (OK1.mv (Has.t rfl)) rfl ?_
    refine stT rfl rfl (fun hg => have hg' := BP.t hg; OK1.fieldAddr (Has.t rfl) fld24_2 ty22) rfl ?_
    refine stT rfl rfl (fun hg => have hg' := BP.t hg; OK1.load1 (Has.g rfl hg) (i := 0) rfl ty22 rfl) rfl ?_
    refine stT rfl rfl (fun hg => have hg' := BP.t hg; OK1.mv (Has.t rfl)) rfl ?_
    refine stT rfl rfl (fun hg => have hg' := BP.t hg; OK1.ixK sl22 ty44 (Has.g rfl hg) (Has.g rfl hg) zc_len ⟨by omega, by omega⟩ (getZ (i := i) (by omega))) rfl ?_
    refine stT rfl rfl (fun hg => have hg' := BP.t hg; OK1.fieldAddrP (Has.g rfl hg) fld44_1 ty42 (Ss' := [_]) rfl) rfl ?_
    refine stT rfl rfl (fun hg => have hg' := BP.t hg; OK1.eq (OK1.loadP1 (Has.g rfl hg) ty42) ((show isWords _ = isWords (words (cf l i).natAbs) from rfl))) rfl ?_
    refine stT rfl rfl (fun hg => have hg' := BP.t hg; OK1.mv (Has.t rfl)) rfl ?_
    refine stT rfl rfl (fun hg => have hg' := BP.t hg; OK1.subI (Has.g rfl hg) (Has.cI 1 rfl) (by first | omega | assumption) (by first | omega | assumption)) rfl ?_
    refine stT rfl rfl (fun hg => have hg' := BP.t hg; OK1.ixP sl42 ty59 (Has.g rfl hg) (Has.g rfl hg) ⟨by omega, by omega⟩ (getD_some (d := 0) (by first | omega | (simp only [Int.toNat_natCast, List.length_set]; omega)))) rfl ?_
    refine stT rfl rfl (fun hg => have hg' := BP.t hg; OK1.eq (OK1.loadP1 (Has.g rfl hg) ty59) ((show isU _ = isU (dig (cf l i).natAbs ((List.length (words (cf l i).natAbs)) - 1)) from isU_eq (by rw [show (((List.length (words (cf l i).natAbs)) : Int) - 1).toNat = (List.length (words (cf l i).natAbs)) - 1 by omega, getD_words])))) rfl ?_
    refine stT rfl rfl (fun hg => have hg' := BP.t hg; OK1.eqU (Has.g rfl hg) (Has.cU 0 rfl)) rfl ?_
    refine st (OK1.pickAnd (Has.t rfl) (fun h => Has.g rfl h)) rfl ?_
    refine st (OK1.mv (Has.t rfl)) rfl ?_
    refine stF rfl rfl (fun hg => have hg' := BP.t hg; OK1.mv (Has.t rfl)) rfl ?_
    refine stF rfl rfl (fun hg => have hg' := BP.t hg; OK1.eqI (Has.g rfl hg) (Has.cI 0 rfl)) rfl ?_
    refine stF rfl rfl (fun hg => have hg' := BP.t hg; OK1.mv (Has.g rfl hg)) rfl ?_
    refine stGT rfl rfl (fun hg => have hg' := BP.t hg; OK1.fieldAddr (Has.t rfl) fld24_2 ty22) rfl ?_
    refine stGT rfl rfl (fun hg => have hg' := BP.t hg; OK1.load1 (Has.g rfl hg) (i := 0) rfl ty22 rfl) rfl ?_
    refine stGT rfl rfl (fun hg => have hg' := BP.t hg; OK1.mv (Has.t rfl)) rfl ?_
    refine stGT rfl rfl (fun hg => have hg' := BP.t hg; OK1.ixK sl22 ty44 (Has.g rfl hg) (Has.g rfl hg) zc_len ⟨by omega, by omega⟩ (getZ (i := i) (by omega))) rfl ?_
    refine stGT rfl rfl (fun hg => have hg' := BP.t hg; OK1.fieldAddrP (Has.g rfl hg) fld44_0 ty4 (Ss' := [_, _]) rfl) rfl ?_
    refine stGT rfl rfl (fun hg => have hg' := BP.t hg; OK1.eq (OK1.loadP1 (Has.g rfl hg) ty4) ((show isB _ = isB (decide (cf l i < 0)) from rfl))) rfl ?_
    refine stF rfl rfl (fun hg => have hg' := BP.t hg; OK1.pickAnd (Has.g rfl hg) (fun h => Has.g rfl (ga hg h))) rfl ?_
    refine st (OK1.pickOr (Has.t rfl) (fun h => Has.g rfl (ng h))) rfl ?_
    refine nl ?_
    refine At.thn (hK9 _ _ ?_); clear hK9
    refine Tri.cond (Has.t rfl) (fun hc2 => ?_) (fun hc2 => ?_)
    · have hc2 := BP.t hc2
      exact (normal_dead hc2).elim
    · have hc2 := BP.f hc2
      refine Tri.skip ?_
      refine At.bln ?_
      refine At.thn (hK7 _ _ ?_); clear hK7
      refine Tri.region ?_
      refine st (OK1.mv (Has.t rfl)) rfl ?_
      refine st (OK1.addI (Has.t rfl) (Has.cI 1 rfl) (by first | omega | assumption) (by first | omega | assumption)) rfl ?_
      refine st (OK1.as (Has.t rfl)) rfl ?_
      refine nl ?_
      refine At.thn ?_
      refine hK4 (⟨i + 1, by omega⟩) _ _ ?_ (Cv.mem (.cons (t := 3) (Has.t' rfl ?_) (.cons (t := 1) (Has.t rfl) .nil)) ?_)
      · show l.length - (i + 1) < l.length - i; omega
      · exact isI_eq (by omega)
      · rfl
  · have hc1 := BP.f hc1
    refine Tri.exit ?_
    refine At.the ?_
    refine At.the ?_
    refine At.blh ?_
    refine At.thn (hK2 _ _ ?_); clear hK2
    refine Tri.cv (Cv.wk (.cons (t := 1) (Has.t rfl) .nil)) ?_
    refine Tri.seq fun K10 hK10 => ?_
    refine Tri.region ?_
    refine st (OK1.load (Has.t rfl) (i := 0) rfl ty24 rfl (Ss' := [_, _, _]) rfl) rfl ?_
    refine st (OK1.eq (OK1.call (ref11_Formed) (.cons (Has.t rfl) .nil)) ((show _ = isB (formB r c l.length) from by rw [List.length_map]))) rfl ?_
    refine st (OK1.as (Has.t rfl)) rfl ?_
    refine nl ?_
    refine At.thn (hK10 _ _ ?_); clear hK10
    refine Tri.ret ?_
    refine rt1 (.inl rfl) Try.results32 rfl (.tmp (Has.t' rfl ?_) .nil)
    all_goals (rfl)
end Go.Proofs.Ytgkbekcpmbjbdaa
/- Contracts: layer 26's laws: what a program that does nothing does not answer. -/
namespace Go.Proofs.Ytgkbekcpmbjbdaa
open Go.En Go.RowKit
set_option linter.unusedVariables false
set_option maxRecDepth 10000
open Go.Nt
open Go.Pz
open Go.Mz
open Go.Hn
open Go.Hp
open Go.Dt
open Go.Ch
theorem aw26_b : Bd [1, 2, 3, 4] 1 := bd64 (by decide)
theorem aw26_tab : tab (2 * 2) 2 (fun i k => cf [1, 2, 3, 4] (i * 2 + k)) = [1, 2, 3, 4] := by decide
theorem aw26_q : Bd [-2, -5, 1] 1 := bd64 (by decide)
theorem aw26_n : pnorm [-2, -5, 1] = [-2, -5, 1] := by decide
theorem aw26_s : psub [-2, -5, 1] [-2, -5, 1] = [] := by decide
theorem det_2 (A : MatF) : det 2 A = A 0 0 * A 1 1 - A 0 1 * A 1 0 := by
  show 0 + 1 * (A 0 0 * (0 + 1 * (A 1 1 * 1))) + (-1) * (A 0 1 * (0 + 1 * (A 1 0 * 1))) = _
  grind
theorem aw26 : chL 2 [1, 2, 3, 4] = [-2, -5, 1] := by
  have h : ∀ i, i < 3 → cp 2 (mf 2 [1, 2, 3, 4]) i = cf [-2, -5, 1] i := pe_inj fun x => by
    rw [← cp_ev, det_2]
    show (1 * x + -1) * (1 * x + -4) - (0 * x + -2) * (0 * x + -3) = 0 + -2 * x ^ 0 + -5 * x ^ 1 + 1 * x ^ 2
    grind
  unfold chL
  show [cp 2 (mf 2 [1, 2, 3, 4]) 0, cp 2 (mf 2 [1, 2, 3, 4]) 1, cp 2 (mf 2 [1, 2, 3, 4]) 2] = _
  rw [h 0 (by decide), h 1 (by decide), h 2 (by decide)]; rfl
set_option maxHeartbeats 4000000 in
theorem law26_awake  : Ctr Try.prog 9 [] (isB true) := by
  refine Ctr.intro Try.func9 rfl (by kernel_rfl) Try.ntmps9 rfl fun w0 F0 => ?_
  refine Tri.cv (Cv.wk .nil) ?_
  refine Tri.seq fun K1 hK1 => ?_
  refine Tri.region ?_
  refine st (OK1.as (Has.cB false)) rfl ?_
  refine nl ?_
  refine At.thn (hK1 _ _ ?_); clear hK1
  refine Tri.seq fun K2 hK2 => ?_
  refine Tri.region ?_
  refine st (OK1.buildS [isI 0, isI 0, isI 0, isI 0] sl117 ty2 zero2 (fun _ _ => ⟨⟨rfl, by decide, by decide⟩, ⟨rfl, by decide, by decide⟩, ⟨rfl, by decide, by decide⟩, ⟨rfl, by decide, by decide⟩, trivial⟩) rfl rfl (.cons (Has.cI 1 rfl) rfl rfl rfl (.cons (Has.cI 2 rfl) rfl rfl rfl (.cons (Has.cI 3 rfl) rfl rfl rfl (.cons (Has.cI 4 rfl) rfl rfl rfl .nil)))) rfl (S := SlM isI [_, _, _, _]) rfl) rfl ?_
  refine st (OK1.eq (OK1.call (zmat_Of (R := 2) (C := 2) (l := [1, 2, 3, 4]) (by decide) (by decide) rfl (by decide)) (.cons (Has.cI 2 rfl) (.cons (Has.cI 2 rfl) (.cons (Has.t rfl) .nil)))) ((show isTup [isMz 2 2 _, isI 0] = isTup [isMz 2 2 [1, 2, 3, 4], isI 0] from by rw [aw26_tab]))) rfl ?_
  refine st (OK1.mv (Has.t rfl)) rfl ?_
  refine st (OK1.ext (Has.t rfl) rfl) rfl ?_
  refine st (OK1.ext (Has.t rfl) rfl) rfl ?_
  refine Ops.alloc [isI 0, isI 0, nilS] zero24 (fun _ _ => ⟨⟨rfl, by decide, by decide⟩, ⟨rfl, by decide, by decide⟩, rfl, trivial⟩) rfl fun b1 => ?_
  refine Ops.store (Has.t rfl) (Has.t rfl) (i := 0) rfl ty24 rfl rfl (Ss' := [_, _, _]) rfl (M' := [(some _, cellM [_, _, _])]) rfl ?_
  refine st (OK1.as (Has.t rfl)) rfl ?_
  refine nl ?_
  refine At.thn (hK2 _ _ ?_); clear hK2
  refine Tri.cv (Cv.wk (.cons (t := 0) (Has.t rfl) (.cons (t := 1) (Has.t rfl) .nil))) ?_
  refine Tri.seq fun K3 hK3 => ?_
  refine Tri.region ?_
  refine st (OK1.load (Has.t rfl) (i := 0) rfl ty24 rfl (Ss' := [_, _, _]) rfl) rfl ?_
  refine st (OK1.eq (OK1.call (zchar_Char (n := 2) (K := 1) (xs := [1, 2, 3, 4].map nz) (by rw [vals_nz]; exact aw26_b) (by decide) (by decide) rfl) (.cons (Has.t rfl) .nil)) ((show _ = isTup [isP [-2, -5, 1], isI 0] from by rw [vals_nz, aw26]))) rfl ?_
  refine st (OK1.mv (Has.t rfl)) rfl ?_
  refine st (OK1.ext (Has.t rfl) rfl) rfl ?_
  refine st (OK1.ext (Has.t rfl) rfl) rfl ?_
  refine st (OK1.as (Has.t rfl)) rfl ?_
  refine st (OK1.as (Has.t rfl)) rfl ?_
  refine nl ?_
  refine At.thn (hK3 _ _ ?_); clear hK3
  refine Tri.cv (Cv.wk (.cons (t := 0) (Has.t rfl) (.cons (t := 3) (Has.t rfl) (.cons (t := 4) (Has.t rfl) .nil)))) ?_
  refine Tri.seq fun K4 hK4 => ?_
  refine Tri.region ?_
  refine st (OK1.mv (Has.t rfl)) rfl ?_
  refine st (OK1.eqI (Has.t rfl) (Has.cI 0 rfl)) rfl ?_
  refine st (OK1.mv (Has.t rfl)) rfl ?_
  refine stT rfl rfl (fun hg => have hg' := BP.t hg; OK1.mv (Has.t rfl)) rfl ?_
  refine stT rfl rfl (fun hg => have hg' := BP.t hg; OK1.buildS [isI 0, isI 0, isI 0] sl117 ty2 zero2 (fun _ _ => ⟨⟨rfl, by decide, by decide⟩, ⟨rfl, by decide, by decide⟩, ⟨rfl, by decide, by decide⟩, trivial⟩) rfl rfl (.cons (Has.cI (-2) rfl) rfl rfl rfl (.cons (Has.cI (-5) rfl) rfl rfl rfl (.cons (Has.cI 1 rfl) rfl rfl rfl .nil))) rfl (S := SlM isI [_, _, _]) rfl) rfl ?_
  refine stT rfl rfl (fun hg => have hg' := BP.t hg; OK1.eq (OK1.call (zpoly_Of (by decide)) (.cons (Has.g rfl hg) .nil)) ((show _ = isP [-2, -5, 1] from isPl_eq aw26_n))) rfl ?_
  refine stT rfl rfl (fun hg => have hg' := BP.t hg; OK1.eq (OK1.call (zpoly_Same (K := 1) (by rw [vals_nz]; exact aw26_q) (by rw [vals_nz]; exact aw26_q) (by decide) (by decide) (by decide)) (.cons (Has.g rfl hg) (.cons (Has.g rfl hg) .nil))) ((show isB _ = isB true from isB_eq (decide_eq_true (by rw [vals_nz]; exact aw26_s))))) rfl ?_
  refine st (OK1.pickAnd (Has.t rfl) (fun h => Has.g rfl h)) rfl ?_
  refine st (OK1.mv (Has.t rfl)) rfl ?_
  refine stT rfl rfl (fun hg => have hg' := BP.t hg; OK1.mv (Has.t rfl)) rfl ?_
  refine stT rfl rfl (fun hg => have hg' := BP.t hg; OK1.len sl34 (Has.g rfl hg)) rfl ?_
  refine stT rfl rfl (fun hg => have hg' := BP.t hg; OK1.eqI (Has.g rfl hg) (Has.cI 3 rfl)) rfl ?_
  refine st (OK1.pickAnd (Has.t rfl) (fun h => Has.g rfl h)) rfl ?_
  refine st (OK1.as (Has.t rfl)) rfl ?_
  refine nl ?_
  refine At.thn (hK4 _ _ ?_); clear hK4
  refine Tri.cv (Cv.wk (.cons (t := 0) (Has.t rfl) .nil)) ?_
  refine Tri.ret ?_
  refine rt1 (.inl rfl) Try.results9 rfl (.tmp (Has.t' rfl ?_) .nil)
  all_goals (rfl)
end Go.Proofs.Ytgkbekcpmbjbdaa
/- Contracts: a matrix's rows, to be reckoned on. -/
namespace Go.Proofs.Ytgkbekcpmbjbdaa
open Go.En Go.RowKit
set_option linter.unusedVariables false
set_option maxRecDepth 10000
open Go.Nt
open Go.Pz
open Go.Mz
set_option maxHeartbeats 4000000 in
theorem bareiss_begun {R C K : Nat} {xs : List (Bool × List Nat)} (hx : Bd (vals xs) K) (hK : K ≤ 4000000000) (hR : R ≤ 64) (hC : C ≤ 64) (hl : xs.length = R * C) : CtrX Try.prog 150 [isM (R : Int) (C : Int) xs] ([]) (fun S M => ∃ bw gt rs, S = isPtr bw 0 ∧ M = wkM bw Gr.nil gt rs C [] 1 false ∧ rs.map Prod.snd = rowsOf R C (vals xs)) := by
  refine CtrX.intro Try.func150 rfl (by kernel_rfl) Try.ntmps150 rfl fun w0 F0 => ?_
  refine Tri.cv (Cv.wk (.cons (t := 0) (Has.t rfl) .nil)) ?_
  refine Tri.seq fun K1 hK1 => ?_
  refine Tri.region ?_
  refine Ops.box (Has.t rfl) rfl fun b1 => ?_
  refine st (OK1.as Has.cP) rfl ?_
  refine nl ?_
  refine At.thn (hK1 _ _ ?_); clear hK1
  refine Tri.seq fun K2 hK2 => ?_
  refine Tri.dr ?_
  refine DrG.st (i := 0) [] rfl rfl rfl (by kernel_rfl) (OKG.o rfl (OK1.fieldAddr (Has.t rfl) fld24_1 ty3)) ?_
  refine DrG.st (i := 1) [7] rfl rfl rfl (by kernel_rfl) (OKG.o rfl (OK1.load1 (Has.t rfl) (i := 0) rfl ty3 rfl)) ?_
  refine DrG.st (i := 2) [] rfl rfl rfl (by kernel_rfl) (OKG.o rfl (OK1.call (zint_Of) (.cons (Has.cI 1 rfl) .nil))) ?_
  refine DrG.fin (n := 3) mixed (by kernel_rfl) (by kernel_rfl) (by kernel_rfl) ?_
  refine Ops.cv (Cv.wk (.cons (t := 1) (Has.t rfl) (.cons (t := 2) (Has.t rfl) (.cons (t := 8) (Has.t rfl) (.cons (t := 9) (Has.t rfl) .nil))))) ?_
  refine st (OK1.build [nilS, isI 0, nilS, isB false, SlM isU [], isB false] pl131 zero131 (fun _ _ => ⟨rfl, ⟨rfl, by decide, by decide⟩, rfl, rfl, nilM _ _, rfl, trivial⟩) (.cons (Has.t rfl) rfl rfl rfl (.cons (Has.t rfl) rfl rfl rfl .nil)) (Z'' := [_, _, _, _, _, _]) rfl) rfl ?_
  refine Ops.box (Has.t rfl) rfl fun b2 => ?_
  refine st (OK1.as (Has.t rfl)) rfl ?_
  refine nl ?_
  refine At.thn (hK2 _ _ ?_); clear hK2
  refine Tri.seq fun K3 hK3 => ?_
  refine Tri.seq fun K4 hK4 => ?_
  refine Tri.cv (Cv.growF (Row) (i := 0) (o := 0) rfl rfl rfl) ?_
  refine Tri.memEq (M' := [grM rowV Gr.nil [], _, _]) rfl ?_
  refine Tri.region ?_
  refine st (OK1.fieldAddr (Has.t rfl) fld24_0 ty3) rfl ?_
  refine st (OK1.load1 (Has.t rfl) (i := 2) rfl ty3 rfl) rfl ?_
  refine st (OK1.mv (Has.cI 0 rfl)) rfl ?_
  refine nl ?_
  refine At.thn (hK4 _ _ ?_); clear hK4
  refine Tri.cv (Cv.wk (.cons (t := 1) (Has.t rfl) (.cons (t := 2) (Has.t rfl) (.cons (t := 3) (Has.t rfl) (.cons (t := 13) (Has.t rfl) (.cons (t := 14) (Has.t rfl) .nil)))))) ?_
  refine Tri.block ?_
  refine Tri.memEq (M' := (_ :: _ :: _ :: ([] : List Row).map rowM)) rfl ?_
  refine Tri.loopF [1, 2, 3, 13] (fun (z : { z : Nat × Gr Row × List Row // z.1 ≤ R ∧ z.2.2.map Prod.snd = rowsOf z.1 C (vals xs) }) => match z with | ⟨(i, gt, rs), hI⟩ => [(14, isI (i : Int))]) (fun M => fun (z : { z : Nat × Gr Row × List Row // z.1 ≤ R ∧ z.2.2.map Prod.snd = rowsOf z.1 C (vals xs) }) => match z with | ⟨(i, gt, rs), hI⟩ => (grM rowV gt rs :: (some b2, cellM [isGr gt rs.length, isI (C : Int), nilS, isB (decide ((1 : Int) < 0)), SlM isU (words (1 : Int).natAbs), isB false]) :: (some b1, cellM [isI (R : Int), isI (C : Int), SlK 2 zc xs]) :: rs.map rowM)) (fun (z : { z : Nat × Gr Row × List Row // z.1 ≤ R ∧ z.2.2.map Prod.snd = rowsOf z.1 C (vals xs) }) => match z with | ⟨(i, gt, rs), hI⟩ => R - i) (⟨(0, Gr.nil, []), Nat.zero_le _, rfl⟩) (Cv.mem (.cons (t := 14) (Has.t' rfl ?_) (.cons (t := 1) (Has.t rfl) (.cons (t := 2) (Has.t rfl) (.cons (t := 3) (Has.t rfl) (.cons (t := 13) (Has.t rfl) .nil))))) ?_) ?_
  · rfl
  · rfl
  rintro ⟨⟨i, gt, rs⟩, hI⟩ K5 hK5
  refine Tri.cv (Cv.wk (.cons (t := 14) (Has.t rfl) (.cons (t := 1) (Has.t rfl) (.cons (t := 2) (Has.t rfl) (.cons (t := 3) (Has.t rfl) (.cons (t := 13) (Has.t rfl) .nil)))))) ?_
  refine Tri.memEq (M' := (grM rowV gt rs :: (some b2, cellM [isGr gt rs.length, isI (C : Int), nilS, isB (decide ((1 : Int) < 0)), SlM isU (words (1 : Int).natAbs), isB false]) :: (some b1, cellM [isI (R : Int), isI (C : Int), SlK 2 zc xs]) :: rs.map rowM)) rfl ?_
  simp only [] at hI
  obtain ⟨hi, hrs⟩ := hI
  have hrl : rs.length = i := by have := congrArg List.length hrs; rwa [List.length_map, rowsOf_len] at this
  refine Tri.seq fun K6 hK6 => ?_
  refine Tri.region ?_
  refine st (OK1.ltI (Has.t rfl) (Has.t rfl)) rfl ?_
  refine nl ?_
  refine At.thn (hK6 _ _ ?_); clear hK6
  refine Tri.seq fun K7 hK7 => ?_
  refine Tri.cond (Has.t rfl) (fun hc1 => ?_) (fun hc1 => ?_)
  · have hc1 := BP.t hc1
    refine Tri.skip ?_
    refine At.thn (hK7 _ _ ?_); clear hK7
    refine Tri.seq fun K8 hK8 => ?_
    refine Tri.block ?_
    refine Tri.seq fun K9 hK9 => ?_
    refine Tri.region ?_
    refine st (OK1.mv (Has.t rfl)) rfl ?_
    refine st (OK1.as (Has.t rfl)) rfl ?_
    refine nl ?_
    refine At.thn (hK9 _ _ ?_); clear hK9
    refine Tri.seq fun K10 hK10 => ?_
    refine Tri.region ?_
    refine Ops.cv (Cv.grow0K (α := Bool × List Nat) zc) ?_
    refine st (OK1.as (Has.cGr (α := Bool × List Nat))) rfl ?_
    refine nl ?_
    refine At.thn (hK10 _ _ ?_); clear hK10
    refine Tri.seq fun K11 hK11 => ?_
    refine Tri.seq fun K12 hK12 => ?_
    refine Tri.region ?_
    refine st (OK1.fieldAddr (Has.t rfl) fld24_1 ty3) rfl ?_
    refine st (OK1.load1 (Has.t rfl) (i := 3) rfl ty3 rfl) rfl ?_
    refine st (OK1.mv (Has.cI 0 rfl)) rfl ?_
    refine nl ?_
    refine At.thn (hK12 _ _ ?_); clear hK12
    refine Tri.block ?_
    refine Tri.loopF [1, 2, 3, 13, 14, 15, 16, 4, 17, 18] (fun (z : { z : Nat × Gr (Bool × List Nat) // z.1 ≤ C }) => match z with | ⟨(k, g), hK2⟩ => [(19, isI (k : Int)), (5, isGr g (((List.range k).map fun k => cf (vals xs) (i * C + k)).map nz).length)]) (fun M => fun (z : { z : Nat × Gr (Bool × List Nat) // z.1 ≤ C }) => match z with | ⟨(k, g), hK2⟩ => (grMK zc g (((List.range k).map fun k => cf (vals xs) (i * C + k)).map nz) :: grM rowV gt rs :: (some b2, cellM [isGr gt rs.length, isI (C : Int), nilS, isB (decide ((1 : Int) < 0)), SlM isU (words (1 : Int).natAbs), isB false]) :: (some b1, cellM [isI (R : Int), isI (C : Int), SlK 2 zc xs]) :: rs.map rowM)) (fun (z : { z : Nat × Gr (Bool × List Nat) // z.1 ≤ C }) => match z with | ⟨(k, g), hK2⟩ => C - k) (⟨(0, Gr.nil), Nat.zero_le _⟩) (Cv.mem (.cons (t := 19) (Has.t' rfl ?_) (.cons (t := 5) (Has.t' rfl ?_) (.cons (t := 1) (Has.t rfl) (.cons (t := 2) (Has.t rfl) (.cons (t := 3) (Has.t rfl) (.cons (t := 13) (Has.t rfl) (.cons (t := 14) (Has.t rfl) (.cons (t := 15) (Has.t rfl) (.cons (t := 16) (Has.t rfl) (.cons (t := 4) (Has.t rfl) (.cons (t := 17) (Has.t rfl) (.cons (t := 18) (Has.t rfl) .nil)))))))))))) ?_) ?_
    · rfl
    · rfl
    · rfl
    rintro ⟨⟨k, g⟩, hK2⟩ K13 hK13
    refine Tri.cv (Cv.wk (.cons (t := 19) (Has.t rfl) (.cons (t := 5) (Has.t rfl) (.cons (t := 1) (Has.t rfl) (.cons (t := 2) (Has.t rfl) (.cons (t := 3) (Has.t rfl) (.cons (t := 13) (Has.t rfl) (.cons (t := 14) (Has.t rfl) (.cons (t := 15) (Has.t rfl) (.cons (t := 16) (Has.t rfl) (.cons (t := 4) (Has.t rfl) (.cons (t := 17) (Has.t rfl) (.cons (t := 18) (Has.t rfl) .nil))))))))))))) ?_
    refine Tri.memEq (M' := (grMK zc g (((List.range k).map fun k => cf (vals xs) (i * C + k)).map nz) :: grM rowV gt rs :: (some b2, cellM [isGr gt rs.length, isI (C : Int), nilS, isB (decide ((1 : Int) < 0)), SlM isU (words (1 : Int).natAbs), isB false]) :: (some b1, cellM [isI (R : Int), isI (C : Int), SlK 2 zc xs]) :: rs.map rowM)) rfl ?_
    simp only [] at hK2
    refine Tri.seq fun K14 hK14 => ?_
    refine Tri.region ?_
    refine st (OK1.ltI (Has.t rfl) (Has.t rfl)) rfl ?_
    refine nl ?_
    refine At.thn (hK14 _ _ ?_); clear hK14
    refine Tri.seq fun K15 hK15 => ?_
    refine Tri.cond (Has.t rfl) (fun hc2 => ?_) (fun hc2 => ?_)
    · have hc2 := BP.t hc2
      refine Tri.skip ?_
      refine At.thn (hK15 _ _ ?_); clear hK15
      refine Tri.seq fun K16 hK16 => ?_
      refine Tri.block ?_
      refine Tri.seq fun K17 hK17 => ?_
      refine Tri.region ?_
      refine st (OK1.mv (Has.t rfl)) rfl ?_
      refine st (OK1.as (Has.t rfl)) rfl ?_
      refine nl ?_
      refine At.thn (hK17 _ _ ?_); clear hK17
      refine Tri.region ?_
      refine st (OK1.mv (Has.t rfl)) rfl ?_
      refine st (OK1.load (Has.t rfl) (i := 3) rfl ty24 rfl (Ss' := [_, _, _]) rfl) rfl ?_
      refine st (OK1.mv (Has.t rfl)) rfl ?_
      refine st (OK1.mv (Has.t rfl)) rfl ?_
      refine st (OK1.call (zmat_At hx hK hR hC hl (i := i) (k := k) (by omega) (by omega)) (.cons (Has.t rfl) (.cons (Has.t rfl) (.cons (Has.t rfl) .nil)))) rfl ?_
      refine st (OK1.buildS [isB false, SlM isU []] sl22 ty44 zero44 (fun _ _ => ⟨rfl, nilM _ _, trivial⟩) rfl rfl (.cons (Has.t rfl) rfl rfl rfl .nil) rfl (S := SlK 2 zc [nz (cf (vals xs) (i * C + k))]) rfl) rfl ?_
      refine Ops.appendGK (fk := zc) (u := (false, [])) zc_len (by decide) (fun _ => inferInstance) sl22 ty44 zero44 (fun _ _ => ⟨rfl, nilM _ _, trivial⟩) by44 (Has.t rfl) (i := 0) rfl (Has.t rfl) (by rw [List.length_map, List.length_map, List.length_range]; show k + 1 ≤ _; omega) (by simp) rfl fun gr1 => ?_
      refine Ops.memEq (M' := (grMK _ _ _ :: _ :: _ :: _ :: _)) rfl ?_
      refine st (OK1.as (Has.t rfl)) rfl ?_
      refine nl ?_
      refine At.bln ?_
      refine At.thn (hK16 _ _ ?_); clear hK16
      refine Tri.region ?_
      refine st (OK1.addI (Has.t rfl) (Has.cI 1 rfl) (by first | omega | assumption) (by first | omega | assumption)) rfl ?_
      refine st (OK1.mv (Has.t rfl)) rfl ?_
      refine nl ?_
      refine At.thn ?_
      refine hK13 (⟨(k + 1, gr1), by show k + 1 ≤ C; omega⟩) _ _ ?_ (Cv.mem (.cons (t := 19) (Has.t' rfl ?_) (.cons (t := 5) (Has.t' rfl ?_) (.cons (t := 1) (Has.t rfl) (.cons (t := 2) (Has.t rfl) (.cons (t := 3) (Has.t rfl) (.cons (t := 13) (Has.t rfl) (.cons (t := 14) (Has.t rfl) (.cons (t := 15) (Has.t rfl) (.cons (t := 16) (Has.t rfl) (.cons (t := 4) (Has.t rfl) (.cons (t := 17) (Has.t rfl) (.cons (t := 18) (Has.t rfl) .nil)))))))))))) ?_)
      · show C - (k + 1) < C - k; omega
      · exact isI_eq (by omega)
      · exact isGr_eq (by rw [range_succ_nz, List.length_append])
      · exact grMK_eq (range_succ_nz _ _).symm
    · have hc2 := BP.f hc2
      refine Tri.exit ?_
      refine At.the ?_
      refine At.the ?_
      refine At.blh ?_
      refine At.thn (hK11 _ _ ?_); clear hK11
      refine Tri.region ?_
      refine st (OK1.mv (Has.t rfl)) rfl ?_
      refine st (OK1.mv (Has.t rfl)) rfl ?_
      refine st (OK1.nilc (Has.t rfl)) rfl ?_
      refine st (OK1.fieldAddr (Has.t rfl) fld131_0 ty93) rfl ?_
      refine st (OK1.load1 (Has.t rfl) (i := 2) rfl ty93 rfl) rfl ?_
      refine st (OK1.mv (Has.t rfl)) rfl ?_
      refine st (OK1.buildS [nilS] sl93 ty22 zero22 (fun _ _ => ⟨rfl, trivial⟩) rfl rfl (.cons (Has.t rfl) rfl rfl rfl .nil) rfl (S := SlM rowV [(g, ((List.range k).map fun k => cf (vals xs) (i * C + k)))]) rfl) rfl ?_
      refine Ops.appendG (f := rowV) (u := (Gr.nil, [])) sl93 ty22 zero22 (fun _ _ => ⟨gr0, trivial⟩) (fun _ => inferInstance) by22 (Has.t rfl) (i := 1) rfl (Has.t rfl) (by rw [hrl]; show i + 1 ≤ _; omega) (by simp) rfl fun gr1 => ?_
      refine Ops.memEq (M' := (_ :: grM _ _ _ :: _ :: _ :: _)) rfl ?_
      refine st (OK1.nilc (Has.t rfl)) rfl ?_
      refine st (OK1.fieldAddr (Has.t rfl) fld131_0 ty93) rfl ?_
      refine Ops.store (Has.t rfl) (Has.t rfl) (i := 2) rfl ty93 rfl rfl (Ss' := [_, _, _, _, _, _]) rfl (M' := (_ :: _ :: (some _, cellM [_, _, _, _, _, _]) :: _ :: _)) rfl ?_
      refine nl ?_
      refine At.bln ?_
      refine At.thn (hK8 _ _ ?_); clear hK8
      refine Tri.region ?_
      refine st (OK1.addI (Has.t rfl) (Has.cI 1 rfl) (by first | omega | assumption) (by first | omega | assumption)) rfl ?_
      refine st (OK1.mv (Has.t rfl)) rfl ?_
      refine nl ?_
      refine At.thn ?_
      have hkC : C = k := by omega
      subst hkC
      refine hK5 (⟨(i + 1, gr1, rs ++ [(g, ((List.range C).map fun k => cf (vals xs) (i * C + k)))]), by show i + 1 ≤ R; omega, by show (rs ++ [(g, ((List.range C).map fun k => cf (vals xs) (i * C + k)))]).map Prod.snd = _; rw [List.map_append, hrs, rowsOf_succ]; rfl⟩) _ _ ?_ (Cv.trans (Cv.perm perm_end) (Cv.mem (.cons (t := 14) (Has.t' rfl ?_) (.cons (t := 1) (Has.t rfl) (.cons (t := 2) (Has.t rfl) (.cons (t := 3) (Has.t rfl) (.cons (t := 13) (Has.t rfl) .nil))))) ?_))
      · show R - (i + 1) < R - i; omega
      · exact isI_eq (by omega)
      · show _ = grM rowV gr1 (rs ++ [_]) :: (some b2, cellM [isGr gr1 (rs ++ [_]).length, _, _, _, _, _]) :: _ :: (rs ++ [_]).map rowM; rw [List.map_append, List.length_append]; rfl
  · have hc1 := BP.f hc1
    refine Tri.exit ?_
    refine At.the ?_
    refine At.the ?_
    refine At.blh ?_
    refine At.thn (hK3 _ _ ?_); clear hK3
    refine Tri.seq fun K18 hK18 => ?_
    refine Tri.cv (Cv.growF (Int) (i := 1) (o := 2) rfl rfl rfl) ?_
    refine Tri.memEq (M' := (grM isI Gr.nil [] :: _ :: _ :: _ :: _)) rfl ?_
    refine Tri.cv (Cv.drop ((.cons_cons _ (.cons_cons _ (.cons_cons _ (.cons _ (List.Sublist.refl _))))))) ?_
    refine Tri.cv (Cv.wk (.cons (t := 2) (Has.t rfl) (.cons (t := 3) (Has.t rfl) (.cons (t := 13) (Has.t rfl) (.cons (t := 14) (Has.t rfl) (.cons (t := 15) (Has.t rfl) .nil)))))) ?_
    refine Tri.cv (Cv.perm perm_rot) ?_
    refine Tri.region ?_
    refine st (OK1.mv (Has.t rfl)) rfl ?_
    refine st (OK1.as (Has.t rfl)) rfl ?_
    refine nl ?_
    refine At.thn (hK18 _ _ ?_); clear hK18
    refine Tri.cv (Cv.wk (.cons (t := 2) (Has.t rfl) .nil)) ?_
    refine Tri.ret ?_
    refine rtX1 (.inl rfl) Try.results150 rfl (.tmp (Has.t rfl) .nil) ?_
    exact ⟨b2, gt, rs, rfl, rfl, by obtain rfl : i = R := (by omega); exact hrs⟩
end Go.Proofs.Ytgkbekcpmbjbdaa
/- Contracts: a row is looked for. -/
namespace Go.Proofs.Ytgkbekcpmbjbdaa
open Go.En Go.RowKit
set_option linter.unusedVariables false
set_option maxRecDepth 10000
open Go.Nt
open Go.Pz
open Go.Mz
set_option maxHeartbeats 4000000 in
theorem bareiss_find {bw C : Nat} {gp : Gr Int} {gt : Gr Row} {rs : List Row} {ps : List Nat} {last : Int} {odd : Bool} {K : Nat} (hrow : ∀ r ∈ rs, r.2.length = C) (hb : ∀ r ∈ rs, Bd r.2 K) (hC : C ≤ 64) (hR : rs.length ≤ 64) (hpl : ps.length ≤ 64) {col : Nat} (hcol : col < C) (hK : K ≤ 400000000) : CtrX Try.prog 157 [isPtr bw 0, isI (col : Int)] (wkM bw gp gt rs C ps last odd) (fun S M => ∃ rs' odd' ok, S = isB ok ∧ M = wkM bw gp gt rs' C ps last odd' ∧ FindR rs ps.length col odd rs' odd' ok) := by
  refine CtrX.intro Try.func157 rfl (by kernel_rfl) Try.ntmps157 rfl fun w0 F0 => ?_
  refine Tri.cv (Cv.wk (.cons (t := 0) (Has.t rfl) (.cons (t := 1) (Has.t rfl) .nil))) ?_
  refine Tri.fact (Has.rngI (Has.t (t := 1) rfl)) fun lt1 => ?_
  have hpv := pv_len ps
  refine Tri.seq fun K1 hK1 => ?_
  refine Tri.region ?_
  refine st (OK1.as (Has.cB false)) rfl ?_
  refine nl ?_
  refine At.thn (hK1 _ _ ?_); clear hK1
  refine Tri.seq fun K2 hK2 => ?_
  refine Tri.region ?_
  refine st (OK1.mv (Has.t rfl)) rfl ?_
  refine st (OK1.nilc (Has.t rfl)) rfl ?_
  refine st (OK1.fieldAddr (Has.t rfl) fld131_2 ty129) rfl ?_
  refine st (OK1.load1 (Has.t rfl) (i := 0) rfl ty129 rfl) rfl ?_
  refine st (OK1.eq (OK1.len sl129 (Has.t rfl)) ((show isI _ = isI (ps.length : Int) from isI_eq (by omega)))) rfl ?_
  refine st (OK1.eq (OK1.as (Has.t rfl)) ((show isI _ = isI (ps.length : Int) from isI_eq (by omega)))) rfl ?_
  refine nl ?_
  refine At.thn (hK2 _ _ ?_); clear hK2
  refine Tri.cv (Cv.wk (.cons (t := 0) (Has.t rfl) (.cons (t := 1) (Has.t rfl) (.cons (t := 4) (Has.t rfl) (.cons (t := 5) (Has.t rfl) .nil))))) ?_
  refine Tri.seq fun K3 hK3 => ?_
  refine Tri.seq fun K4 hK4 => ?_
  refine Tri.region ?_
  refine st (OK1.mv (Has.t rfl)) rfl ?_
  refine st (OK1.as (Has.t rfl)) rfl ?_
  refine nl ?_
  refine At.thn (hK4 _ _ ?_); clear hK4
  refine Tri.block ?_
  refine Tri.loopF [0, 1, 5] (fun (z : { i : Nat // ps.length ≤ i ∧ (i ≤ rs.length ∨ i = ps.length) ∧ ∀ (j : Nat) (r : Row), ps.length ≤ j → j < i → rs[j]? = some r → cf r.2 col = 0 }) => match z with | ⟨i, hi⟩ => [(6, isI (i : Int))]) (fun M => fun (z : { i : Nat // ps.length ≤ i ∧ (i ≤ rs.length ∨ i = ps.length) ∧ ∀ (j : Nat) (r : Row), ps.length ≤ j → j < i → rs[j]? = some r → cf r.2 col = 0 }) => match z with | ⟨i, hi⟩ => M) (fun (z : { i : Nat // ps.length ≤ i ∧ (i ≤ rs.length ∨ i = ps.length) ∧ ∀ (j : Nat) (r : Row), ps.length ≤ j → j < i → rs[j]? = some r → cf r.2 col = 0 }) => match z with | ⟨i, hi⟩ => rs.length - i) (⟨ps.length, Nat.le_refl _, .inr rfl, fun j r h1 h2 => absurd h2 (by omega)⟩) (Cv.mem (.cons (t := 6) (Has.t' rfl ?_) (.cons (t := 0) (Has.t rfl) (.cons (t := 1) (Has.t rfl) (.cons (t := 5) (Has.t rfl) .nil)))) ?_) ?_
  · exact isI_eq (by omega)
  · rfl
  rintro ⟨i, hi, hi2, hz⟩ K5 hK5
  refine Tri.cv (Cv.wk (.cons (t := 6) (Has.t rfl) (.cons (t := 0) (Has.t rfl) (.cons (t := 1) (Has.t rfl) (.cons (t := 5) (Has.t rfl) .nil))))) ?_
  refine Tri.seq fun K6 hK6 => ?_
  refine Tri.seq fun K7 hK7 => ?_
  refine Tri.region ?_
  refine st (OK1.mv (Has.t rfl)) rfl ?_
  refine st (OK1.mv (Has.t rfl)) rfl ?_
  refine st (OK1.nilc (Has.t rfl)) rfl ?_
  refine st (OK1.fieldAddr (Has.t rfl) fld131_0 ty93) rfl ?_
  refine st (OK1.load1 (Has.t rfl) (i := 0) rfl ty93 rfl) rfl ?_
  refine st (OK1.len sl93 (Has.t rfl)) rfl ?_
  refine st (OK1.ltI (Has.t rfl) (Has.t rfl)) rfl ?_
  refine nl ?_
  refine At.thn (hK7 _ _ ?_); clear hK7
  refine Tri.cond (Has.t rfl) (fun hc1 => ?_) (fun hc1 => ?_)
  · have hc1 := BP.t hc1
    obtain ⟨r, hr⟩ : ∃ r, rs[i]? = some r := ⟨_, List.getElem?_eq_getElem (by omega)⟩
    have hrC := hrow r (List.mem_of_getElem? hr)
    have hrB := hb r (List.mem_of_getElem? hr)
    have hrL : (r.2.map nz).length = C := by rw [List.length_map, hrC]
    refine Tri.skip ?_
    refine At.thn (hK6 _ _ ?_); clear hK6
    refine Tri.seq fun K8 hK8 => ?_
    refine Tri.block ?_
    refine Tri.seq fun K9 hK9 => ?_
    refine Tri.region ?_
    refine st (OK1.mv (Has.t rfl)) rfl ?_
    refine st (OK1.nilc (Has.t rfl)) rfl ?_
    refine st (OK1.fieldAddr (Has.t rfl) fld131_0 ty93) rfl ?_
    refine st (OK1.load1 (Has.t rfl) (i := 0) rfl ty93 rfl) rfl ?_
    refine st (OK1.mv (Has.t rfl)) rfl ?_
    refine st (OK1.ixGr sl93 ty22 (Has.t rfl) (Has.t rfl) ⟨by omega, by omega⟩) rfl ?_
    refine st (OK1.loadGM (Has.t rfl) (i := 2) rfl ty22 hr) rfl ?_
    refine st (OK1.mv (Has.t rfl)) rfl ?_
    refine st (OK1.ixGr sl22 ty44 (Has.t rfl) (Has.t rfl) ⟨by omega, by omega⟩) rfl ?_
    refine st (OK1.loadGK zc_len (Has.t rfl) (i := 3 + i) (wkAt (pre := [_, _, _]) hr) ty44 (getZ (i := col) (by omega))) rfl ?_
    refine st (OK1.eq (OK1.call (zint_Sign (by rw [val_words]; have := hrB col; omega)) (.cons (Has.t rfl) .nil)) ((show isI _ = isI (sgn (cf r.2 col)) from isI_eq (by rw [zv_nz])))) rfl ?_
    refine st (OK1.neI (Has.t rfl) (Has.cI 0 rfl)) rfl ?_
    refine nl ?_
    refine At.thn (hK9 _ _ ?_); clear hK9
    refine Tri.cond (Has.t rfl) (fun hc2 => ?_) (fun hc2 => ?_)
    · have hc2 := BP.t hc2
      have he : cf r.2 col ≠ 0 := fun e => hc2 ((sgn_eq0 _).2 e)
      refine Tri.seq fun K10 hK10 => ?_
      refine Tri.seq fun K11 hK11 => ?_
      refine Tri.region ?_
      refine st (OK1.mv (Has.t rfl)) rfl ?_
      refine st (OK1.mv (Has.t rfl)) rfl ?_
      refine st (OK1.neI (Has.t rfl) (Has.t rfl)) rfl ?_
      refine nl ?_
      refine At.thn (hK11 _ _ ?_); clear hK11
      refine Tri.cond (Has.t rfl) (fun hc3 => ?_) (fun hc3 => ?_)
      · have hc3 := BP.t hc3
        obtain ⟨rt, hrt⟩ : ∃ rt, rs[ps.length]? = some rt := ⟨_, List.getElem?_eq_getElem (by omega)⟩
        have hne : i ≠ ps.length := fun e => hc3 (congrArg Nat.cast e)
        refine Tri.seq fun K12 hK12 => ?_
        refine Tri.dry mixed ?_
        refine DrB.take (i := 0) rfl rfl rfl rfl (by kernel_rfl) (by kernel_rfl) (by kernel_rfl) (by kernel_rfl) (fun _ _ _ _ h => h) (OKY.mv (Has.t rfl)) ?_
        refine DrB.take (i := 1) rfl rfl rfl rfl (by kernel_rfl) (by kernel_rfl) (by kernel_rfl) (by kernel_rfl) (fun _ _ _ _ h => h) (OKY.nilc (Has.t rfl)) ?_
        refine DrB.take (i := 2) rfl rfl rfl rfl (by kernel_rfl) (by kernel_rfl) (by kernel_rfl) (by kernel_rfl) (fun _ _ _ _ h => h) (OKY.fieldAddr (Has.t rfl) fld131_0 ty93) ?_
        refine DrB.take (i := 4) rfl rfl rfl rfl (by kernel_rfl) (by kernel_rfl) (by kernel_rfl) (by kernel_rfl) (fun _ _ _ _ h => h) (OKY.mv (Has.t rfl)) ?_
        refine DrB.take (i := 5) rfl rfl rfl rfl (by kernel_rfl) (by kernel_rfl) (by kernel_rfl) (by kernel_rfl) (fun _ _ _ _ h => h) (OKY.mv (Has.t rfl)) ?_
        refine DrB.take (i := 6) rfl rfl rfl rfl (by kernel_rfl) (by kernel_rfl) (by kernel_rfl) (by kernel_rfl) (fun _ _ _ _ h => h) (OKY.nilc (Has.t rfl)) ?_
        refine DrB.take (i := 7) rfl rfl rfl rfl (by kernel_rfl) (by kernel_rfl) (by kernel_rfl) (by kernel_rfl) (fun _ _ _ _ h => h) (OKY.fieldAddr (Has.t rfl) fld131_0 ty93) ?_
        refine DrB.take (i := 9) rfl rfl rfl rfl (by kernel_rfl) (by kernel_rfl) (by kernel_rfl) (by kernel_rfl) (fun _ _ _ _ h => h) (OKY.mv (Has.t rfl)) ?_
        refine DrB.take (i := 10) rfl rfl rfl rfl (by kernel_rfl) (by kernel_rfl) (by kernel_rfl) (by kernel_rfl) (fun _ _ _ _ h => h) (OKY.mv (Has.t rfl)) ?_
        refine DrB.take (i := 11) rfl rfl rfl rfl (by kernel_rfl) (by kernel_rfl) (by kernel_rfl) (by kernel_rfl) (fun _ _ _ _ h => h) (OKY.nilc (Has.t rfl)) ?_
        refine DrB.take (i := 12) rfl rfl rfl rfl (by kernel_rfl) (by kernel_rfl) (by kernel_rfl) (by kernel_rfl) (fun _ _ _ _ h => h) (OKY.fieldAddr (Has.t rfl) fld131_0 ty93) ?_
        refine DrB.take (i := 14) rfl rfl rfl rfl (by kernel_rfl) (by kernel_rfl) (by kernel_rfl) (by kernel_rfl) (fun _ _ _ _ h => h) (OKY.mv (Has.t rfl)) ?_
        refine DrB.take (i := 17) rfl rfl rfl rfl (by kernel_rfl) (by kernel_rfl) (by kernel_rfl) (by kernel_rfl) (fun _ _ _ _ h => h) (OKY.mv (Has.t rfl)) ?_
        refine DrB.take (i := 18) rfl rfl rfl rfl (by kernel_rfl) (by kernel_rfl) (by kernel_rfl) (by kernel_rfl) (fun _ _ _ _ h => h) (OKY.nilc (Has.t rfl)) ?_
        refine DrB.take (i := 19) rfl rfl rfl rfl (by kernel_rfl) (by kernel_rfl) (by kernel_rfl) (by kernel_rfl) (fun _ _ _ _ h => h) (OKY.fieldAddr (Has.t rfl) fld131_0 ty93) ?_
        refine DrB.take (i := 21) rfl rfl rfl rfl (by kernel_rfl) (by kernel_rfl) (by kernel_rfl) (by kernel_rfl) (fun _ _ _ _ h => h) (OKY.mv (Has.t rfl)) ?_
        refine DrB.go [] ?_
        refine DrC.st (i := 3) [] rfl rfl rfl (by kernel_rfl) (by kernel_rfl) (OKG.o rfl (OK1.load1 (Has.t rfl) (i := 0) rfl ty93 rfl)) ?_
        refine DrC.st (i := 8) [] rfl rfl rfl (by kernel_rfl) (by kernel_rfl) (OKG.o rfl (OK1.load1 (Has.t rfl) (i := 0) rfl ty93 rfl)) ?_
        refine DrC.st (i := 13) [] rfl rfl rfl (by kernel_rfl) (by kernel_rfl) (OKG.o rfl (OK1.load1 (Has.t rfl) (i := 0) rfl ty93 rfl)) ?_
        refine DrC.st (i := 15) [50] rfl rfl rfl (by kernel_rfl) (by kernel_rfl) (OKG.o rfl (OK1.ixGr sl93 ty22 (Has.t rfl) (Has.t rfl) ⟨by omega, by omega⟩)) ?_
        refine DrC.st (i := 16) [52] rfl rfl rfl (by kernel_rfl) (by kernel_rfl) (OKG.o rfl (OK1.loadGM (Has.t rfl) (i := 2) rfl ty22 hrt)) ?_
        refine DrC.st (i := 20) [] rfl rfl rfl (by kernel_rfl) (by kernel_rfl) (OKG.o rfl (OK1.load1 (Has.t rfl) (i := 0) rfl ty93 rfl)) ?_
        refine DrC.st (i := 22) [57] rfl rfl rfl (by kernel_rfl) (by kernel_rfl) (OKG.o rfl (OK1.ixGr sl93 ty22 (Has.t rfl) (Has.t rfl) ⟨by omega, by omega⟩)) ?_
        refine DrC.st (i := 23) [59] rfl rfl rfl (by kernel_rfl) (by kernel_rfl) (OKG.o rfl (OK1.loadGM (Has.t rfl) (i := 2) rfl ty22 hr)) ?_
        refine DrC.fin [24, 25, 26, 27] (by kernel_rfl) (by kernel_rfl) (fun _ _ _ _ _ h => h) (by kernel_rfl) (by kernel_rfl) (by kernel_rfl) (by kernel_rfl) (by kernel_rfl) (by kernel_rfl) (by kernel_rfl) (by kernel_rfl) (by kernel_rfl) ?_
        refine Ops.cv (Cv.wk (.cons (t := 0) (Has.t rfl) (.cons (t := 1) (Has.t rfl) (.cons (t := 5) (Has.t rfl) (.cons (t := 6) (Has.t rfl) (.cons (t := 13) (Has.t rfl) (.cons (t := 14) (Has.t rfl) (.cons (t := 15) (Has.t rfl) (.cons (t := 16) (Has.t rfl) (.cons (t := 17) (Has.t rfl) (.cons (t := 18) (Has.t rfl) (.cons (t := 19) (Has.t rfl) (.cons (t := 22) (Has.t rfl) (.cons (t := 23) (Has.t rfl) (.cons (t := 24) (Has.t rfl) (.cons (t := 25) (Has.t rfl) (.cons (t := 26) (Has.t rfl) (.cons (t := 27) (Has.t rfl) (.cons (t := 28) (Has.t rfl) (.cons (t := 29) (Has.t rfl) (.cons (t := 30) (Has.t rfl) (.cons (t := 31) (Has.t rfl) (.cons (t := 32) (Has.t rfl) (.cons (t := 33) (Has.t rfl) (.cons (t := 34) (Has.t rfl) (.cons (t := 35) (Has.t rfl) (.cons (t := 36) (Has.t rfl) (.cons (t := 37) (Has.t rfl) (.cons (t := 38) (Has.t rfl) (.cons (t := 39) (Has.t rfl) (.cons (t := 41) (Has.t rfl) (.cons (t := 42) (Has.t rfl) (.cons (t := 43) (Has.t rfl) (.cons (t := 44) (Has.t rfl) (.cons (t := 46) (Has.t rfl) (.cons (t := 47) (Has.t rfl) (.cons (t := 48) (Has.t rfl) (.cons (t := 49) (Has.t rfl) (.cons (t := 51) (Has.t rfl) (.cons (t := 54) (Has.t rfl) (.cons (t := 55) (Has.t rfl) (.cons (t := 56) (Has.t rfl) (.cons (t := 58) (Has.t rfl) (.cons (t := 40) (Has.t rfl) (.cons (t := 45) (Has.t rfl) (.cons (t := 50) (Has.t rfl) (.cons (t := 52) (Has.t rfl) (.cons (t := 53) (Has.t rfl) (.cons (t := 57) (Has.t rfl) (.cons (t := 59) (Has.t rfl) (.cons (t := 60) (Has.t rfl) .nil))))))))))))))))))))))))))))))))))))))))))))))))))) ?_
        refine st (OK1.ixGr sl93 ty22 (Has.t rfl) (Has.t rfl) ⟨by omega, by omega⟩) rfl ?_
        refine Ops.storeGM (z := rt) (Has.t rfl) (Has.t rfl) (i := 2) rfl ty22 (by omega) (M' := (_ :: _ :: grM _ _ _ :: _)) rfl ?_
        refine st (OK1.ixGr sl93 ty22 (Has.t rfl) (Has.t rfl) ⟨by omega, by omega⟩) rfl ?_
        refine Ops.storeGM (z := r) (Has.t rfl) (Has.t rfl) (i := 2) rfl ty22 (by rw [List.length_set]; omega) (M' := (_ :: _ :: grM _ _ _ :: _)) rfl ?_
        refine nl ?_
        refine At.thn (hK12 _ _ ?_); clear hK12
        refine Tri.region ?_
        refine st (OK1.mv (Has.t rfl)) rfl ?_
        refine st (OK1.mv (Has.t rfl)) rfl ?_
        refine st (OK1.nilc (Has.t rfl)) rfl ?_
        refine st (OK1.fieldAddr (Has.t rfl) fld131_4 ty4) rfl ?_
        refine st (OK1.load1 (Has.t rfl) (i := 0) rfl ty4 rfl) rfl ?_
        refine st (OK1.not (Has.t rfl)) rfl ?_
        refine st (OK1.nilc (Has.t rfl)) rfl ?_
        refine st (OK1.fieldAddr (Has.t rfl) fld131_4 ty4) rfl ?_
        refine Ops.store (Has.t rfl) (Has.t rfl) (i := 0) rfl ty4 rfl rfl (Ss' := [_, _, _, _, _, _]) rfl (M' := ((some _, cellM [_, _, _, _, _, _]) :: _ :: _ :: _)) rfl ?_
        refine nl ?_
        refine At.thn (hK10 _ _ ?_); clear hK10
        refine Tri.seq fun K13 hK13 => ?_
        refine Tri.cv (Cv.perm (perm_tail (pre := [_, _, _]) (swap_perm hr hrt hne))) ?_
        refine Tri.region ?_
        refine st (OK1.as (Has.cB true)) rfl ?_
        refine nl ?_
        refine At.thn (hK13 _ _ ?_); clear hK13
        refine Tri.ret ?_
        refine At.blr ?_
        refine At.thr ?_
        refine At.thr ?_
        refine At.blr ?_
        refine At.thr ?_
        refine rtX1 (.inl rfl) Try.results157 rfl (.tmp (Has.t rfl) .nil) ?_
        exact ⟨_, _, true, rfl, wkM_len (by rw [List.length_set, List.length_set]), .inr ⟨rfl, i, r, rt, by omega, hr, hrt, he, hz, by rw [if_neg hne]; rfl, by rw [if_neg hne]⟩⟩
      · have hc3 := BP.f hc3
        have hie : i = ps.length := by omega
        refine Tri.skip ?_
        refine At.thn (hK10 _ _ ?_); clear hK10
        refine Tri.seq fun K14 hK14 => ?_
        refine Tri.region ?_
        refine st (OK1.as (Has.cB true)) rfl ?_
        refine nl ?_
        refine At.thn (hK14 _ _ ?_); clear hK14
        refine Tri.ret ?_
        refine At.blr ?_
        refine At.thr ?_
        refine At.thr ?_
        refine At.blr ?_
        refine At.thr ?_
        refine rtX1 (.inl rfl) Try.results157 rfl (.tmp (Has.t rfl) .nil) ?_
        exact ⟨_, _, true, rfl, rfl, .inr ⟨rfl, i, r, r, by omega, hr, hie ▸ hr, he, hz, by rw [if_pos hie], by rw [if_pos hie]⟩⟩
    · have hc2 := BP.f hc2
      have he : cf r.2 col = 0 := (sgn_eq0 _).1 hc2
      refine Tri.skip ?_
      refine At.bln ?_
      refine At.thn (hK8 _ _ ?_); clear hK8
      refine Tri.region ?_
      refine st (OK1.mv (Has.t rfl)) rfl ?_
      refine st (OK1.addI (Has.t rfl) (Has.cI 1 rfl) (by first | omega | assumption) (by first | omega | assumption)) rfl ?_
      refine st (OK1.as (Has.t rfl)) rfl ?_
      refine nl ?_
      refine At.thn ?_
      refine hK5 (⟨i + 1, by omega, .inl (by omega), fun j r' h1 h2 h3 => by rcases Nat.lt_or_ge j i with h | h; exact hz j r' h1 h h3; obtain rfl : j = i := (by omega); rw [hr] at h3; obtain rfl := Option.some.inj h3; exact he⟩) _ _ ?_ (Cv.mem (.cons (t := 6) (Has.t' rfl ?_) (.cons (t := 0) (Has.t rfl) (.cons (t := 1) (Has.t rfl) (.cons (t := 5) (Has.t rfl) .nil)))) ?_)
      · show rs.length - (i + 1) < rs.length - i; omega
      · exact isI_eq (by omega)
      · rfl
  · have hc1 := BP.f hc1
    skip
    refine Tri.exit ?_
    refine At.the ?_
    refine At.the ?_
    refine At.blh ?_
    refine At.thn (hK3 _ _ ?_); clear hK3
    refine Tri.cv (Cv.wk .nil) ?_
    refine Tri.seq fun K15 hK15 => ?_
    refine Tri.region ?_
    refine st (OK1.as (Has.cB false)) rfl ?_
    refine nl ?_
    refine At.thn (hK15 _ _ ?_); clear hK15
    refine Tri.ret ?_
    refine rtX1 (.inl rfl) Try.results157 rfl (.tmp (Has.t rfl) .nil) ?_
    exact ⟨_, _, false, rfl, rfl, .inl ⟨rfl, rfl, rfl, fun j r h1 h2 => by rcases Nat.lt_or_ge j i with h | h; exact hz j r h1 h h2; rw [List.getElem?_eq_none (by omega)] at h2; cases h2⟩⟩
end Go.Proofs.Ytgkbekcpmbjbdaa
/- Contracts: the pivot's row is taken out of those below. -/
namespace Go.Proofs.Ytgkbekcpmbjbdaa
open Go.En Go.RowKit
set_option linter.unusedVariables false
set_option maxRecDepth 10000
open Go.Nt
open Go.Pz
open Go.Mz
set_option maxHeartbeats 4000000 in
theorem bareiss_clear {bw C : Nat} {gp : Gr Int} {gt : Gr Row} {rs : List Row} {ps : List Nat} {last : Int} {odd : Bool} {K : Nat} (hrow : ∀ r ∈ rs, r.2.length = C) (hb : ∀ r ∈ rs, Bd r.2 K) (hC : C ≤ 64) (hR : rs.length ≤ 64) (hpl : ps.length ≤ 64) {col : Nat} {r0 : Row} (hcol : col < C) (hK : K ≤ 100000000) (hlast : (List.length (words last.natAbs)) ≤ K) (h0 : rs[ps.length]? = some r0) : CtrX Try.prog 158 [isPtr bw 0, isI (col : Int)] (wkM bw gp gt rs C ps last odd) (fun S M => ∃ gp' gt' rs', S = isTup [] ∧ M = wkM bw gp' gt' rs' C (ps ++ [col]) (cf r0.2 col) odd ∧ ClrI rs ps.length col last r0.2 rs.length rs') := by
  refine CtrX.intro Try.func158 rfl (by kernel_rfl) Try.ntmps158 rfl fun w0 F0 => ?_
  refine Tri.cv (Cv.wk (.cons (t := 0) (Has.t rfl) (.cons (t := 1) (Has.t rfl) .nil))) ?_
  refine Tri.fact (Has.rngI (Has.t (t := 1) rfl)) fun lt1 => ?_
  have hpv := pv_len ps
  have hr0C := hrow r0 (List.mem_of_getElem? h0)
  have hr0B := hb r0 (List.mem_of_getElem? h0)
  have hr0L : (r0.2.map nz).length = C := by rw [List.length_map, hr0C]
  have htl : ps.length < rs.length := by rcases Nat.lt_or_ge ps.length rs.length with h | h; exact h; rw [List.getElem?_eq_none h] at h0; cases h0
  refine Tri.seq fun K1 hK1 => ?_
  refine Tri.region ?_
  refine st (OK1.mv (Has.t rfl)) rfl ?_
  refine st (OK1.nilc (Has.t rfl)) rfl ?_
  refine st (OK1.fieldAddr (Has.t rfl) fld131_2 ty129) rfl ?_
  refine st (OK1.load1 (Has.t rfl) (i := 0) rfl ty129 rfl) rfl ?_
  refine st (OK1.eq (OK1.len sl129 (Has.t rfl)) ((show isI _ = isI (ps.length : Int) from isI_eq (by omega)))) rfl ?_
  refine st (OK1.as (Has.t rfl)) rfl ?_
  refine nl ?_
  refine At.thn (hK1 _ _ ?_); clear hK1
  refine Tri.cv (Cv.wk (.cons (t := 0) (Has.t rfl) (.cons (t := 1) (Has.t rfl) (.cons (t := 4) (Has.t rfl) .nil)))) ?_
  refine Tri.seq fun K2 hK2 => ?_
  refine Tri.region ?_
  refine st (OK1.mv (Has.t rfl)) rfl ?_
  refine st (OK1.nilc (Has.t rfl)) rfl ?_
  refine st (OK1.fieldAddr (Has.t rfl) fld131_0 ty93) rfl ?_
  refine st (OK1.load1 (Has.t rfl) (i := 0) rfl ty93 rfl) rfl ?_
  refine st (OK1.mv (Has.t rfl)) rfl ?_
  refine st (OK1.ixGr sl93 ty22 (Has.t rfl) (Has.t rfl) ⟨by omega, by omega⟩) rfl ?_
  refine st (OK1.loadGM (Has.t rfl) (i := 2) rfl ty22 h0) rfl ?_
  refine st (OK1.as (Has.t rfl)) rfl ?_
  refine nl ?_
  refine At.thn (hK2 _ _ ?_); clear hK2
  refine Tri.cv (Cv.wk (.cons (t := 0) (Has.t rfl) (.cons (t := 1) (Has.t rfl) (.cons (t := 4) (Has.t rfl) (.cons (t := 5) (Has.t rfl) .nil))))) ?_
  refine Tri.seq fun K3 hK3 => ?_
  refine Tri.seq fun K4 hK4 => ?_
  refine Tri.region ?_
  refine st (OK1.mv (Has.t rfl)) rfl ?_
  refine st (OK1.addI (Has.t rfl) (Has.cI 1 rfl) (by first | omega | assumption) (by first | omega | assumption)) rfl ?_
  refine st (OK1.as (Has.t rfl)) rfl ?_
  refine nl ?_
  refine At.thn (hK4 _ _ ?_); clear hK4
  refine Tri.block ?_
  refine Tri.loopF [0, 1, 5] (fun (z : { z : Nat × List Row // ps.length < z.1 ∧ (z.1 ≤ rs.length) ∧ ClrI rs ps.length col last r0.2 z.1 z.2 }) => match z with | ⟨(i, rs'), hI⟩ => [(6, isI (i : Int))]) (fun M => fun (z : { z : Nat × List Row // ps.length < z.1 ∧ (z.1 ≤ rs.length) ∧ ClrI rs ps.length col last r0.2 z.1 z.2 }) => match z with | ⟨(i, rs'), hI⟩ => (wk0 bw gp gt rs.length C ps last odd :: grM isI gp (pv ps) :: grM rowV gt rs' :: rs'.map rowM)) (fun (z : { z : Nat × List Row // ps.length < z.1 ∧ (z.1 ≤ rs.length) ∧ ClrI rs ps.length col last r0.2 z.1 z.2 }) => match z with | ⟨(i, rs'), hI⟩ => rs.length - i) (⟨(ps.length + 1, rs), Nat.lt_succ_self _, htl, ClrI.start _ _ _ _ _⟩) (Cv.mem (.cons (t := 6) (Has.t' rfl ?_) (.cons (t := 0) (Has.t rfl) (.cons (t := 1) (Has.t rfl) (.cons (t := 5) (Has.t rfl) .nil)))) ?_) ?_
  · exact isI_eq (by omega)
  · rfl
  rintro ⟨⟨i, rs'⟩, hI⟩ K5 hK5
  refine Tri.cv (Cv.wk (.cons (t := 6) (Has.t rfl) (.cons (t := 0) (Has.t rfl) (.cons (t := 1) (Has.t rfl) (.cons (t := 5) (Has.t rfl) .nil))))) ?_
  refine Tri.memEq (M' := (wk0 bw gp gt rs.length C ps last odd :: grM isI gp (pv ps) :: grM rowV gt rs' :: rs'.map rowM)) rfl ?_
  simp only [] at hI
  obtain ⟨hti, hin, hcl⟩ := hI
  have hlen := hcl.len
  have h0' := (hcl.at (.inl (Nat.le_refl _))).trans h0
  refine Tri.seq fun K6 hK6 => ?_
  refine Tri.seq fun K7 hK7 => ?_
  refine Tri.region ?_
  refine st (OK1.mv (Has.t rfl)) rfl ?_
  refine st (OK1.mv (Has.t rfl)) rfl ?_
  refine st (OK1.nilc (Has.t rfl)) rfl ?_
  refine st (OK1.fieldAddr (Has.t rfl) fld131_0 ty93) rfl ?_
  refine st (OK1.load1 (Has.t rfl) (i := 0) rfl ty93 rfl) rfl ?_
  refine st (OK1.len sl93 (Has.t rfl)) rfl ?_
  refine st (OK1.ltI (Has.t rfl) (Has.t rfl)) rfl ?_
  refine nl ?_
  refine At.thn (hK7 _ _ ?_); clear hK7
  refine Tri.cond (Has.t rfl) (fun hc1 => ?_) (fun hc1 => ?_)
  · have hc1 := BP.t hc1
    obtain ⟨r, hr⟩ : ∃ r, rs[i]? = some r := ⟨_, List.getElem?_eq_getElem (by omega)⟩
    have hrC := hrow r (List.mem_of_getElem? hr)
    have hrB := hb r (List.mem_of_getElem? hr)
    have hrL : (r.2.map nz).length = C := by rw [List.length_map, hrC]
    have hri := (hcl.at (.inr (Nat.le_refl _))).trans hr
    refine Tri.skip ?_
    refine At.thn (hK6 _ _ ?_); clear hK6
    refine Tri.seq fun K8 hK8 => ?_
    refine Tri.block ?_
    refine Tri.seq fun K9 hK9 => ?_
    refine Tri.region ?_
    refine st (OK1.mv (Has.t rfl)) rfl ?_
    refine st (OK1.nilc (Has.t rfl)) rfl ?_
    refine st (OK1.fieldAddr (Has.t rfl) fld131_0 ty93) rfl ?_
    refine st (OK1.load1 (Has.t rfl) (i := 0) rfl ty93 rfl) rfl ?_
    refine st (OK1.mv (Has.t rfl)) rfl ?_
    refine st (OK1.ixGr sl93 ty22 (Has.t rfl) (Has.t rfl) ⟨by omega, by omega⟩) rfl ?_
    refine st (OK1.loadGM (Has.t rfl) (i := 2) rfl ty22 hri) rfl ?_
    refine st (OK1.as (Has.t rfl)) rfl ?_
    refine nl ?_
    refine At.thn (hK9 _ _ ?_); clear hK9
    refine Tri.seq fun K10 hK10 => ?_
    refine Tri.region ?_
    refine st (OK1.mv (Has.t rfl)) rfl ?_
    refine st (OK1.mv (Has.t rfl)) rfl ?_
    refine st (OK1.ixGr sl22 ty44 (Has.t rfl) (Has.t rfl) ⟨by omega, by omega⟩) rfl ?_
    refine st (OK1.loadGK zc_len (Has.t rfl) (i := 3 + i) (wkAt (pre := [_, _, _]) hri) ty44 (getZ (i := col) (by omega))) rfl ?_
    refine Ops.alloc [isB false, SlM isU []] zero44 (fun _ _ => ⟨rfl, nilM _ _, trivial⟩) rfl fun b1 => ?_
    refine Ops.store (Has.t rfl) (Has.t rfl) (i := 0) rfl ty44 rfl rfl (Ss' := [_, _]) rfl (M' := ((some _, cellM [_, _]) :: _ :: _ :: _ :: _)) rfl ?_
    refine nl ?_
    refine At.thn (hK10 _ _ ?_); clear hK10
    refine Tri.seq fun K11 hK11 => ?_
    refine Tri.region ?_
    refine st (OK1.mv (Has.t rfl)) rfl ?_
    refine st (OK1.len sl22 (Has.t rfl)) rfl ?_
    refine st (OK1.mv (Has.cI 0 rfl)) rfl ?_
    refine nl ?_
    refine At.thn (hK11 _ _ ?_); clear hK11
    refine Tri.block ?_
    refine Tri.loopF [0, 1, 5, 6, 25, 26, 27, 28, 29, 30, 31, 34, 35, 36, 37, 38, 39, 40, 7, 41, 42, 43, 44, 8, 45, 46] (fun (z : { k : Nat // k ≤ C }) => match z with | ⟨k, hk⟩ => [(47, isI (k : Int))]) (fun M => fun (z : { k : Nat // k ≤ C }) => match z with | ⟨k, hk⟩ => (zM b1 (cf r.2 col) :: wk0 bw gp gt rs.length C ps last odd :: grM isI gp (pv ps) :: grM rowV gt rs' :: (rs'.set i (r.1, mixR r0.2 r.2 col last k)).map rowM)) (fun (z : { k : Nat // k ≤ C }) => match z with | ⟨k, hk⟩ => C - k) (⟨0, Nat.zero_le _⟩) (Cv.mem (.cons (t := 47) (Has.t' rfl ?_) (.cons (t := 0) (Has.t rfl) (.cons (t := 1) (Has.t rfl) (.cons (t := 5) (Has.t rfl) (.cons (t := 6) (Has.t rfl) (.cons (t := 25) (Has.t rfl) (.cons (t := 26) (Has.t rfl) (.cons (t := 27) (Has.t rfl) (.cons (t := 28) (Has.t rfl) (.cons (t := 29) (Has.t rfl) (.cons (t := 30) (Has.t rfl) (.cons (t := 31) (Has.t rfl) (.cons (t := 34) (Has.t rfl) (.cons (t := 35) (Has.t rfl) (.cons (t := 36) (Has.t rfl) (.cons (t := 37) (Has.t rfl) (.cons (t := 38) (Has.t rfl) (.cons (t := 39) (Has.t rfl) (.cons (t := 40) (Has.t rfl) (.cons (t := 7) (Has.t rfl) (.cons (t := 41) (Has.t rfl) (.cons (t := 42) (Has.t rfl) (.cons (t := 43) (Has.t rfl) (.cons (t := 44) (Has.t rfl) (.cons (t := 8) (Has.t rfl) (.cons (t := 45) (Has.t rfl) (.cons (t := 46) (Has.t rfl) .nil))))))))))))))))))))))))))) ?_) ?_
    · rfl
    · exact tail4 (mix_start hri)
    rintro ⟨k, hk⟩ K12 hK12
    refine Tri.cv (Cv.wk (.cons (t := 47) (Has.t rfl) (.cons (t := 0) (Has.t rfl) (.cons (t := 1) (Has.t rfl) (.cons (t := 5) (Has.t rfl) (.cons (t := 6) (Has.t rfl) (.cons (t := 25) (Has.t rfl) (.cons (t := 26) (Has.t rfl) (.cons (t := 27) (Has.t rfl) (.cons (t := 28) (Has.t rfl) (.cons (t := 29) (Has.t rfl) (.cons (t := 30) (Has.t rfl) (.cons (t := 31) (Has.t rfl) (.cons (t := 34) (Has.t rfl) (.cons (t := 35) (Has.t rfl) (.cons (t := 36) (Has.t rfl) (.cons (t := 37) (Has.t rfl) (.cons (t := 38) (Has.t rfl) (.cons (t := 39) (Has.t rfl) (.cons (t := 40) (Has.t rfl) (.cons (t := 7) (Has.t rfl) (.cons (t := 41) (Has.t rfl) (.cons (t := 42) (Has.t rfl) (.cons (t := 43) (Has.t rfl) (.cons (t := 44) (Has.t rfl) (.cons (t := 8) (Has.t rfl) (.cons (t := 45) (Has.t rfl) (.cons (t := 46) (Has.t rfl) .nil)))))))))))))))))))))))))))) ?_
    refine Tri.memEq (M' := (zM b1 (cf r.2 col) :: wk0 bw gp gt rs.length C ps last odd :: grM isI gp (pv ps) :: grM rowV gt rs' :: (rs'.set i (r.1, mixR r0.2 r.2 col last k)).map rowM)) rfl ?_
    have hset : (rs'.set i (r.1, mixR r0.2 r.2 col last k))[i]? = some (r.1, mixR r0.2 r.2 col last k) := List.getElem?_set_self (by omega)
    have hset0 : (rs'.set i (r.1, mixR r0.2 r.2 col last k))[ps.length]? = some r0 := (List.getElem?_set_ne (by omega)).trans h0'
    refine Tri.seq fun K13 hK13 => ?_
    refine Tri.region ?_
    refine st (OK1.ltI (Has.t rfl) (Has.t rfl)) rfl ?_
    refine nl ?_
    refine At.thn (hK13 _ _ ?_); clear hK13
    refine Tri.seq fun K14 hK14 => ?_
    refine Tri.cond (Has.t rfl) (fun hc2 => ?_) (fun hc2 => ?_)
    · have hc2 := BP.t hc2
      refine Tri.skip ?_
      refine At.thn (hK14 _ _ ?_); clear hK14
      refine Tri.seq fun K15 hK15 => ?_
      refine Tri.block ?_
      refine Tri.seq fun K16 hK16 => ?_
      refine Tri.region ?_
      refine st (OK1.mv (Has.t rfl)) rfl ?_
      refine st (OK1.as (Has.t rfl)) rfl ?_
      refine nl ?_
      refine At.thn (hK16 _ _ ?_); clear hK16
      refine Tri.seq fun K17 hK17 => ?_
      refine Tri.drhS (.cons_cons _ (.cons_cons _ (.cons_cons _ (.cons_cons _ (List.Sublist.refl _))))) ?_
      refine DrH.st (i := 0) [] rfl rfl rfl (by kernel_rfl) (OKG.o rfl (OK1.mv (Has.t rfl))) ?_
      refine DrH.st (i := 1) [] rfl rfl rfl (by kernel_rfl) (OKG.o rfl (OK1.mv (Has.t rfl))) ?_
      refine DrH.st (i := 2) [50, 51] rfl rfl rfl (by kernel_rfl) (OKG.o rfl (OK1.ixGr sl22 ty44 (Has.t rfl) (Has.t rfl) ⟨by omega, by omega⟩)) ?_
      refine DrH.st (i := 3) [52] rfl rfl rfl (by kernel_rfl) (OKG.o rfl (OK1.loadGK zc_len (Has.t rfl) (i := 4 + i) (wkAt (pre := [_, _, _, _]) (r := (r.1, mixR r0.2 r.2 col last k)) hset) ty44 (show ((mixR r0.2 r.2 col last k).map nz)[k]? = some (nz (cf r.2 k)) from by rw [List.getElem?_map, mixR_at _ _ _ _ (by omega)]; rfl))) ?_
      refine DrH.st (i := 4) [] rfl rfl rfl (by kernel_rfl) (OKG.o rfl (OK1.mv (Has.t rfl))) ?_
      refine DrH.st (i := 5) [] rfl rfl rfl (by kernel_rfl) (OKG.o rfl (OK1.mv (Has.t rfl))) ?_
      refine DrH.st (i := 6) [54, 55] rfl rfl rfl (by kernel_rfl) (OKG.o rfl (OK1.ixGr sl22 ty44 (Has.t rfl) (Has.t rfl) ⟨by omega, by omega⟩)) ?_
      refine DrH.st (i := 7) [56] rfl rfl rfl (by kernel_rfl) (OKG.o rfl (OK1.loadGK zc_len (Has.t rfl) (i := 4 + ps.length) (wkAt (pre := [_, _, _, _]) hset0) ty44 (getZ (i := col) (by omega)))) ?_
      refine DrH.st (i := 8) [53, 57] rfl rfl rfl (by kernel_rfl) (OKG.o rfl (OK1.eq (OK1.call (zint_Mul (by rw [val_words]; have := hrB k; omega) (by rw [val_words]; have := hr0B col; omega)) (.cons (Has.t rfl) (.cons (Has.t rfl) .nil))) ((show isZ _ = isZ (cf r.2 k * cf r0.2 col) from isZ_eq (by (try simp only [zv_nz]); (try simp only [zv_nf])))))) ?_
      refine DrH.st (i := 9) [] rfl rfl rfl (by kernel_rfl) (OKG.o rfl (OK1.load (Has.t rfl) (i := 0) rfl ty44 rfl (Ss' := [_, _]) rfl)) ?_
      refine DrH.st (i := 10) [] rfl rfl rfl (by kernel_rfl) (OKG.o rfl (OK1.mv (Has.t rfl))) ?_
      refine DrH.st (i := 11) [] rfl rfl rfl (by kernel_rfl) (OKG.o rfl (OK1.mv (Has.t rfl))) ?_
      refine DrH.st (i := 12) [60, 61] rfl rfl rfl (by kernel_rfl) (OKG.o rfl (OK1.ixGr sl22 ty44 (Has.t rfl) (Has.t rfl) ⟨by omega, by omega⟩)) ?_
      refine DrH.st (i := 13) [62] rfl rfl rfl (by kernel_rfl) (OKG.o rfl (OK1.loadGK zc_len (Has.t rfl) (i := 4 + ps.length) (wkAt (pre := [_, _, _, _]) hset0) ty44 (getZ (i := k) (by omega)))) ?_
      refine DrH.st (i := 14) [59, 63] rfl rfl rfl (by kernel_rfl) (OKG.o rfl (OK1.eq (OK1.call (zint_Mul (by rw [val_words]; have := hrB col; omega) (by rw [val_words]; have := hr0B k; omega)) (.cons (Has.t rfl) (.cons (Has.t rfl) .nil))) ((show isZ _ = isZ (cf r.2 col * cf r0.2 k) from isZ_eq (by rw [zv_nf, zv_nz]))))) ?_
      refine DrH.st (i := 15) [58, 64] rfl rfl rfl (by kernel_rfl) (OKG.o rfl (OK1.eq (OK1.call (zint_Sub (by rw [val_words]; have := nz_mul (cf r.2 k) (cf r0.2 col); have := hrB k; have := hr0B col; omega) (by rw [val_words]; have := nz_mul (cf r.2 col) (cf r0.2 k); have := hrB col; have := hr0B k; omega)) (.cons (Has.t rfl) (.cons (Has.t rfl) .nil))) ((show isZ _ = isZ (cf r.2 k * cf r0.2 col - cf r.2 col * cf r0.2 k) from isZ_eq (by simp only [zv_nf]))))) ?_
      refine DrH.als (n1 := 17) (ds := [10]) (zs := [[isB false, SlM isU []]]) rfl (.cons rfl rfl zero44 (fun _ _ => ⟨rfl, nilM _ _, trivial⟩) .nil) (.cons_cons _ (.cons_cons _ (.cons_cons _ (.cons_cons _ (List.Sublist.refl _))))) (Cs := [_]) rfl ?_
      refine DrN.fin (n := 17) mixed rfl (by kernel_rfl) (by kernel_rfl) (by kernel_rfl) (fun bs hbs => ?_)
      obtain ⟨b2, rfl⟩ := len1 hbs
      refine Ops.memEq (M' := (_ :: _ :: _ :: _ :: _ :: _)) rfl ?_
      refine Ops.cv (Cv.wk (.cons (t := 0) (Has.t rfl) (.cons (t := 1) (Has.t rfl) (.cons (t := 5) (Has.t rfl) (.cons (t := 6) (Has.t rfl) (.cons (t := 25) (Has.t rfl) (.cons (t := 26) (Has.t rfl) (.cons (t := 27) (Has.t rfl) (.cons (t := 28) (Has.t rfl) (.cons (t := 29) (Has.t rfl) (.cons (t := 30) (Has.t rfl) (.cons (t := 31) (Has.t rfl) (.cons (t := 34) (Has.t rfl) (.cons (t := 35) (Has.t rfl) (.cons (t := 36) (Has.t rfl) (.cons (t := 37) (Has.t rfl) (.cons (t := 38) (Has.t rfl) (.cons (t := 39) (Has.t rfl) (.cons (t := 40) (Has.t rfl) (.cons (t := 7) (Has.t rfl) (.cons (t := 41) (Has.t rfl) (.cons (t := 42) (Has.t rfl) (.cons (t := 43) (Has.t rfl) (.cons (t := 44) (Has.t rfl) (.cons (t := 8) (Has.t rfl) (.cons (t := 45) (Has.t rfl) (.cons (t := 46) (Has.t rfl) (.cons (t := 47) (Has.t rfl) (.cons (t := 48) (Has.t rfl) (.cons (t := 49) (Has.t rfl) (.cons (t := 9) (Has.t rfl) (.cons (t := 50) (Has.t rfl) (.cons (t := 51) (Has.t rfl) (.cons (t := 52) (Has.t rfl) (.cons (t := 53) (Has.t rfl) (.cons (t := 54) (Has.t rfl) (.cons (t := 55) (Has.t rfl) (.cons (t := 56) (Has.t rfl) (.cons (t := 57) (Has.t rfl) (.cons (t := 58) (Has.t rfl) (.cons (t := 59) (Has.t rfl) (.cons (t := 60) (Has.t rfl) (.cons (t := 61) (Has.t rfl) (.cons (t := 62) (Has.t rfl) (.cons (t := 63) (Has.t rfl) (.cons (t := 64) (Has.t rfl) (.cons (t := 65) (Has.t rfl) (.cons (t := 10) (Has.op rfl) .nil)))))))))))))))))))))))))))))))))))))))))))))))) ?_
      refine Ops.store (Has.t rfl) (Has.t rfl) (i := 0) rfl ty44 rfl rfl (Ss' := [_, _]) rfl (M' := ((some _, cellM [_, _]) :: _ :: _ :: _ :: _ :: _)) rfl ?_
      refine nl ?_
      refine At.thn (hK17 _ _ ?_); clear hK17
      refine Tri.dry mixed ?_
      refine DrB.take (i := 0) rfl rfl rfl rfl (by kernel_rfl) (by kernel_rfl) (by kernel_rfl) (by kernel_rfl) (fun _ _ _ _ h => h) (OKY.mv (Has.t rfl)) ?_
      refine DrB.take (i := 1) rfl rfl rfl rfl (by kernel_rfl) (by kernel_rfl) (by kernel_rfl) (by kernel_rfl) (fun _ _ _ _ h => h) (OKY.mv (Has.t rfl)) ?_
      refine DrB.take (i := 3) rfl rfl rfl rfl (by kernel_rfl) (by kernel_rfl) (by kernel_rfl) (by kernel_rfl) (fun _ _ _ _ h => h) (OKY.mv (Has.t rfl)) ?_
      refine DrB.take (i := 4) rfl rfl rfl rfl (by kernel_rfl) (by kernel_rfl) (by kernel_rfl) (by kernel_rfl) (fun _ _ _ _ h => h) (OKY.nilc (Has.t rfl)) ?_
      refine DrB.take (i := 5) rfl rfl rfl rfl (by kernel_rfl) (by kernel_rfl) (by kernel_rfl) (by kernel_rfl) (fun _ _ _ _ h => h) (OKY.fieldAddr (Has.t rfl) fld131_3 ty44) ?_
      refine DrB.go [10] ?_
      refine DrC.st (i := 2) [] rfl rfl rfl (by kernel_rfl) (by kernel_rfl) (OKG.o rfl (OK1.load (Has.t rfl) (i := 0) rfl ty44 rfl (Ss' := [_, _]) rfl)) ?_
      refine DrC.st (i := 6) [] rfl rfl rfl (by kernel_rfl) (by kernel_rfl) (OKG.o rfl (OK1.load (Has.t rfl) (i := 2) rfl ty44 rfl (Ss' := [_, _]) rfl)) ?_
      refine DrC.st (i := 7) [69, 73] rfl rfl rfl (by kernel_rfl) (by kernel_rfl) (OKG.o rfl (OK1.call (zint_Exact (by rw [val_words]; have := nz_sub (cf r.2 k * cf r0.2 col) (cf r.2 col * cf r0.2 k); have := nz_mul (cf r.2 k) (cf r0.2 col); have := nz_mul (cf r.2 col) (cf r0.2 k); have := hrB k; have := hrB col; have := hr0B k; have := hr0B col; omega) (by rw [val_words]; omega)) (.cons (Has.t rfl) (.cons (Has.t rfl) .nil)))) ?_
      refine DrC.st (i := 8) [74] rfl rfl rfl (by kernel_rfl) (by kernel_rfl) (OKG.o rfl (OK1.mv (Has.t rfl))) ?_
      refine DrC.ea (i := 10) [66] rfl rfl rfl (by kernel_rfl) rfl (OKY.ext (Has.t rfl) rfl) ?_
      refine DrC.fin [9, 11, 12] (by kernel_rfl) (by kernel_rfl) (fun _ _ _ _ _ h => h) (by kernel_rfl) (by kernel_rfl) (by kernel_rfl) (by kernel_rfl) (by kernel_rfl) (by kernel_rfl) (by kernel_rfl) (by kernel_rfl) (by kernel_rfl) ?_
      refine Ops.cv (Cv.wk (.cons (t := 0) (Has.t rfl) (.cons (t := 1) (Has.t rfl) (.cons (t := 5) (Has.t rfl) (.cons (t := 6) (Has.t rfl) (.cons (t := 25) (Has.t rfl) (.cons (t := 26) (Has.t rfl) (.cons (t := 27) (Has.t rfl) (.cons (t := 28) (Has.t rfl) (.cons (t := 29) (Has.t rfl) (.cons (t := 30) (Has.t rfl) (.cons (t := 31) (Has.t rfl) (.cons (t := 34) (Has.t rfl) (.cons (t := 35) (Has.t rfl) (.cons (t := 36) (Has.t rfl) (.cons (t := 37) (Has.t rfl) (.cons (t := 38) (Has.t rfl) (.cons (t := 39) (Has.t rfl) (.cons (t := 40) (Has.t rfl) (.cons (t := 7) (Has.t rfl) (.cons (t := 41) (Has.t rfl) (.cons (t := 42) (Has.t rfl) (.cons (t := 43) (Has.t rfl) (.cons (t := 44) (Has.t rfl) (.cons (t := 8) (Has.t rfl) (.cons (t := 45) (Has.t rfl) (.cons (t := 46) (Has.t rfl) (.cons (t := 47) (Has.t rfl) (.cons (t := 48) (Has.t rfl) (.cons (t := 49) (Has.t rfl) (.cons (t := 9) (Has.t rfl) (.cons (t := 50) (Has.t rfl) (.cons (t := 51) (Has.t rfl) (.cons (t := 52) (Has.t rfl) (.cons (t := 53) (Has.t rfl) (.cons (t := 54) (Has.t rfl) (.cons (t := 55) (Has.t rfl) (.cons (t := 56) (Has.t rfl) (.cons (t := 57) (Has.t rfl) (.cons (t := 58) (Has.t rfl) (.cons (t := 59) (Has.t rfl) (.cons (t := 60) (Has.t rfl) (.cons (t := 61) (Has.t rfl) (.cons (t := 62) (Has.t rfl) (.cons (t := 63) (Has.t rfl) (.cons (t := 64) (Has.t rfl) (.cons (t := 65) (Has.t rfl) (.cons (t := 10) (Has.t rfl) (.cons (t := 67) (Has.t rfl) (.cons (t := 68) (Has.t rfl) (.cons (t := 70) (Has.t rfl) (.cons (t := 71) (Has.t rfl) (.cons (t := 72) (Has.t rfl) (.cons (t := 69) (Has.t rfl) (.cons (t := 73) (Has.t rfl) (.cons (t := 74) (Has.t rfl) (.cons (t := 66) (Has.t rfl) .nil))))))))))))))))))))))))))))))))))))))))))))))))))))))))) ?_
      refine st (OK1.eq (OK1.ext (Has.t rfl) rfl) ((show isZ _ = Flat (zc (nz (clr r0.2 r.2 col last k))) from isZ_eq (by rw [zv_nf, zv_nf]; rfl)))) rfl ?_
      refine st (OK1.ixGr sl22 ty44 (Has.t rfl) (Has.t rfl) ⟨by omega, by omega⟩) rfl ?_
      refine Ops.storeGK (z := nz (clr r0.2 r.2 col last k)) zc_len (Has.t rfl) (Has.t rfl) (i := 5 + i) (wkAt (pre := [_, _, _, _, _]) (r := (r.1, mixR r0.2 r.2 col last k)) hset) ty44 (by rw [List.length_map, mixR_len _ _ _ _ (by omega)]; omega) (M' := (_ :: _ :: _ :: _ :: _ :: (rs'.set i (r.1, mixR r0.2 r.2 col last (k + 1))).map rowM)) (wkStore (pre := [_, _, _, _, _]) (X := (r.1, mixR r0.2 r.2 col last k)) hset (mixR_set _ _ _ _ (by omega))) ?_
      refine nl ?_
      refine At.bln ?_
      refine At.thn (hK15 _ _ ?_); clear hK15
      refine Tri.region ?_
      refine st (OK1.addI (Has.t rfl) (Has.cI 1 rfl) (by first | omega | assumption) (by first | omega | assumption)) rfl ?_
      refine st (OK1.mv (Has.t rfl)) rfl ?_
      refine nl ?_
      refine At.thn ?_
      refine hK12 (⟨k + 1, by omega⟩) _ _ ?_ (Cv.trans (Cv.drop ((.cons _ (.cons_cons _ (.cons_cons _ (.cons_cons _ (.cons_cons _ (List.Sublist.refl _)))))))) (Cv.mem (.cons (t := 47) (Has.t' rfl ?_) (.cons (t := 0) (Has.t rfl) (.cons (t := 1) (Has.t rfl) (.cons (t := 5) (Has.t rfl) (.cons (t := 6) (Has.t rfl) (.cons (t := 25) (Has.t rfl) (.cons (t := 26) (Has.t rfl) (.cons (t := 27) (Has.t rfl) (.cons (t := 28) (Has.t rfl) (.cons (t := 29) (Has.t rfl) (.cons (t := 30) (Has.t rfl) (.cons (t := 31) (Has.t rfl) (.cons (t := 34) (Has.t rfl) (.cons (t := 35) (Has.t rfl) (.cons (t := 36) (Has.t rfl) (.cons (t := 37) (Has.t rfl) (.cons (t := 38) (Has.t rfl) (.cons (t := 39) (Has.t rfl) (.cons (t := 40) (Has.t rfl) (.cons (t := 7) (Has.t rfl) (.cons (t := 41) (Has.t rfl) (.cons (t := 42) (Has.t rfl) (.cons (t := 43) (Has.t rfl) (.cons (t := 44) (Has.t rfl) (.cons (t := 8) (Has.t rfl) (.cons (t := 45) (Has.t rfl) (.cons (t := 46) (Has.t rfl) .nil))))))))))))))))))))))))))) ?_))
      · show C - (k + 1) < C - k; omega
      · exact isI_eq (by omega)
      · rfl
    · have hc2 := BP.f hc2
      refine Tri.exit ?_
      refine At.the ?_
      refine At.the ?_
      refine At.blh ?_
      refine At.bln ?_
      refine At.thn (hK8 _ _ ?_); clear hK8
      refine Tri.region ?_
      refine st (OK1.mv (Has.t rfl)) rfl ?_
      refine st (OK1.addI (Has.t rfl) (Has.cI 1 rfl) (by first | omega | assumption) (by first | omega | assumption)) rfl ?_
      refine st (OK1.as (Has.t rfl)) rfl ?_
      refine nl ?_
      refine At.thn ?_
      have hkC : k = r.2.length := by omega
      subst hkC
      refine hK5 (⟨(i + 1, rs'.set i (r.1, clrL r0.2 r.2 col last)), by show ps.length < i + 1; omega, by show i + 1 ≤ _; omega, hcl.step hti hr⟩) _ _ ?_ (Cv.trans (Cv.drop ((.cons _ (.cons_cons _ (.cons_cons _ (.cons_cons _ (List.Sublist.refl _))))))) (Cv.mem (.cons (t := 6) (Has.t' rfl ?_) (.cons (t := 0) (Has.t rfl) (.cons (t := 1) (Has.t rfl) (.cons (t := 5) (Has.t rfl) .nil)))) ?_))
      · show rs.length - (i + 1) < rs.length - i; omega
      · exact isI_eq (by omega)
      · exact wk_round hri
  · have hc1 := BP.f hc1
    refine Tri.exit ?_
    refine At.the ?_
    refine At.the ?_
    refine At.blh ?_
    refine At.thn (hK3 _ _ ?_); clear hK3
    refine Tri.cv (Cv.wk (.cons (t := 0) (Has.t rfl) (.cons (t := 1) (Has.t rfl) (.cons (t := 5) (Has.t rfl) .nil)))) ?_
    refine Tri.seq fun K18 hK18 => ?_
    refine Tri.region ?_
    refine st (OK1.mv (Has.t rfl)) rfl ?_
    refine st (OK1.mv (Has.t rfl)) rfl ?_
    refine st (OK1.mv (Has.t rfl)) rfl ?_
    refine st (OK1.ixGr sl22 ty44 (Has.t rfl) (Has.t rfl) ⟨by omega, by omega⟩) rfl ?_
    refine st (OK1.loadGK zc_len (Has.t rfl) (i := 3 + ps.length) (wkAt (pre := [_, _, _]) h0') ty44 (getZ (i := col) (by omega))) rfl ?_
    refine st (OK1.nilc (Has.t rfl)) rfl ?_
    refine st (OK1.fieldAddr (Has.t rfl) fld131_3 ty44) rfl ?_
    refine Ops.store (Has.t rfl) (Has.t rfl) (i := 0) rfl ty44 rfl rfl (Ss' := [_, _, _, _, _, _]) rfl (M' := ((some _, cellM [_, _, _, _, _, _]) :: _ :: _ :: _)) rfl ?_
    refine nl ?_
    refine At.thn (hK18 _ _ ?_); clear hK18
    refine Tri.cv (Cv.wk (.cons (t := 0) (Has.t rfl) (.cons (t := 1) (Has.t rfl) .nil))) ?_
    refine Tri.region ?_
    refine st (OK1.mv (Has.t rfl)) rfl ?_
    refine st (OK1.mv (Has.t rfl)) rfl ?_
    refine st (OK1.nilc (Has.t rfl)) rfl ?_
    refine st (OK1.fieldAddr (Has.t rfl) fld131_2 ty129) rfl ?_
    refine st (OK1.load1 (Has.t rfl) (i := 0) rfl ty129 rfl) rfl ?_
    refine st (OK1.mv (Has.t rfl)) rfl ?_
    refine st (OK1.buildS [isI 0] sl129 ty3 zero3 (fun _ _ => ⟨⟨rfl, by decide, by decide⟩, trivial⟩) rfl rfl (.cons (Has.t rfl) rfl rfl rfl .nil) rfl (S := SlM isI [(col : Int)]) rfl) rfl ?_
    refine Ops.appendG (f := isI) (u := 0) sl129 ty3 zero3 (fun _ _ => ⟨⟨rfl, by decide, by decide⟩, trivial⟩) (fun _ => inferInstance) by3 (Has.t rfl) (i := 1) rfl (Has.t rfl) (by rw [hpv]; show ps.length + 1 ≤ _; omega) (by simp) rfl fun gr1 => ?_
    refine Ops.memEq (M' := (_ :: grM _ _ _ :: _ :: _)) rfl ?_
    refine st (OK1.nilc (Has.t rfl)) rfl ?_
    refine st (OK1.fieldAddr (Has.t rfl) fld131_2 ty129) rfl ?_
    refine Ops.store (Has.t rfl) (Has.t rfl) (i := 0) rfl ty129 rfl rfl (Ss' := [_, _, _, _, _, _]) rfl (M' := ((some _, cellM [_, _, _, _, _, _]) :: _ :: _ :: _)) rfl ?_
    refine nl ?_
    refine rtX0 (.inr rfl) Try.results158 rfl ?_
    exact ⟨gr1, gt, rs', rfl, wk_clr hlen.symm rfl, by obtain rfl : i = rs.length := (by omega); exact hcl⟩
end Go.Proofs.Ytgkbekcpmbjbdaa
/- Contracts: all steps. -/
namespace Go.Proofs.Ytgkbekcpmbjbdaa
open Go.En Go.RowKit
set_option linter.unusedVariables false
set_option maxRecDepth 10000
open Go.Nt
open Go.Pz
open Go.Mz
set_option maxHeartbeats 4000000 in
theorem bareiss_run {bw C : Nat} {gp : Gr Int} {gt : Gr Row} {rs : List Row} {K : Nat} (hrow : ∀ r ∈ rs, r.2.length = C) (hb : ∀ r ∈ rs, Bd r.2 K) (hC : C ≤ 64) (hR : rs.length ≤ 64) (hK1 : 1 ≤ K) (hK : (K + 1) * 2 ^ rs.length ≤ 100000000) : CtrX Try.prog 151 [isPtr bw 0] (wkM bw gp gt rs C [] 1 false) (fun S M => ∃ gp' gt' rs' ps' last' odd', S = isTup [] ∧ M = wkM bw gp' gt' rs' C ps' last' odd' ∧ RunI ⟨rs.map Prod.snd, [], 1, false⟩ C K rs.length C rs' ps' last' odd') := by
  refine CtrX.intro Try.func151 rfl (by kernel_rfl) Try.ntmps151 rfl fun w0 F0 => ?_
  refine Tri.cv (Cv.wk (.cons (t := 0) (Has.t rfl) .nil)) ?_
  refine Tri.seq fun K1 hK1 => ?_
  refine Tri.region ?_
  refine st (OK1.as (Has.cI 0 rfl)) rfl ?_
  refine nl ?_
  refine At.thn (hK1 _ _ ?_); clear hK1
  refine Tri.block ?_
  refine Tri.loopF [0] (fun (z : { z : Nat × Gr Int × Gr Row × List Row × List Nat × Int × Bool // RunI ⟨rs.map Prod.snd, [], 1, false⟩ C K rs.length z.1 z.2.2.2.1 z.2.2.2.2.1 z.2.2.2.2.2.1 z.2.2.2.2.2.2 }) => match z with | ⟨(c, gp1, gt1, rs1, ps1, last1, odd1), hI⟩ => [(2, isI (c : Int))]) (fun M => fun (z : { z : Nat × Gr Int × Gr Row × List Row × List Nat × Int × Bool // RunI ⟨rs.map Prod.snd, [], 1, false⟩ C K rs.length z.1 z.2.2.2.1 z.2.2.2.2.1 z.2.2.2.2.2.1 z.2.2.2.2.2.2 }) => match z with | ⟨(c, gp1, gt1, rs1, ps1, last1, odd1), hI⟩ => wkM bw gp1 gt1 rs1 C ps1 last1 odd1) (fun (z : { z : Nat × Gr Int × Gr Row × List Row × List Nat × Int × Bool // RunI ⟨rs.map Prod.snd, [], 1, false⟩ C K rs.length z.1 z.2.2.2.1 z.2.2.2.2.1 z.2.2.2.2.2.1 z.2.2.2.2.2.2 }) => match z with | ⟨(c, gp1, gt1, rs1, ps1, last1, odd1), hI⟩ => C - c) (⟨(0, gp, gt, rs, [], 1, false), Nat.zero_le _, rfl, hrow, Nat.zero_le _, fun r hr => (hb r hr).mono (by show K ≤ (K + 1) * 1 - 1; omega), (by show (List.length (words (1 : Int).natAbs)) ≤ (K + 1) * 1 - 1; rw [nz_one]; omega), .zero⟩) (Cv.mem (.cons (t := 2) (Has.t' rfl ?_) (.cons (t := 0) (Has.t rfl) .nil)) ?_) ?_
  · rfl
  · rfl
  rintro ⟨⟨c, gp1, gt1, rs1, ps1, last1, odd1⟩, hI⟩ K2 hK2
  refine Tri.cv (Cv.wk (.cons (t := 2) (Has.t rfl) (.cons (t := 0) (Has.t rfl) .nil))) ?_
  refine Tri.memEq (M' := wkM bw gp1 gt1 rs1 C ps1 last1 odd1) rfl ?_
  simp only [] at hI
  have hbn := hI.bnd
  have hpv := pv_len ps1
  have hlen1 := hI.hlen
  have hps1 := hI.hps
  have hcC := hI.hc
  refine Tri.seq fun K3 hK3 => ?_
  refine Tri.seq fun K4 hK4 => ?_
  refine Tri.dr ?_
  refine DrG.st (i := 0) [] rfl rfl rfl (by kernel_rfl) (OKG.o rfl (OK1.mv (Has.t rfl))) ?_
  refine DrG.st (i := 1) [] rfl rfl rfl (by kernel_rfl) (OKG.o rfl (OK1.mv (Has.t rfl))) ?_
  refine DrG.st (i := 2) [4] rfl rfl rfl (by kernel_rfl) (OKG.o rfl (OK1.nilc (Has.t rfl))) ?_
  refine DrG.st (i := 3) [5] rfl rfl rfl (by kernel_rfl) (OKG.o rfl (OK1.fieldAddr (Has.t rfl) fld131_1 ty3)) ?_
  refine DrG.st (i := 4) [6] rfl rfl rfl (by kernel_rfl) (OKG.o rfl (OK1.load1 (Has.t rfl) (i := 0) rfl ty3 rfl)) ?_
  refine DrG.st (i := 5) [3, 7] rfl rfl rfl (by kernel_rfl) (OKG.o rfl (OK1.ltI (Has.t rfl) (Has.t rfl))) ?_
  refine DrG.st (i := 6) [8] rfl rfl rfl (by kernel_rfl) (OKG.o rfl (OK1.mv (Has.t rfl))) ?_
  refine DrG.st (i := 7) [9] rfl rfl rfl (by kernel_rfl) (OKG.T rfl rfl rfl (fun hg => have hg' := BP.t hg; OK1.mv (Has.t rfl))) ?_
  refine DrG.st (i := 8) [9, 10] rfl rfl rfl (by kernel_rfl) (OKG.T rfl rfl rfl (fun hg => have hg' := BP.t hg; OK1.nilc (Has.g rfl hg))) ?_
  refine DrG.st (i := 9) [9, 11] rfl rfl rfl (by kernel_rfl) (OKG.T rfl rfl rfl (fun hg => have hg' := BP.t hg; OK1.fieldAddr (Has.g rfl hg) fld131_2 ty129)) ?_
  refine DrG.st (i := 10) [9, 12] rfl rfl rfl (by kernel_rfl) (OKG.T rfl rfl rfl (fun hg => have hg' := BP.t hg; OK1.load1 (Has.g rfl hg) (i := 0) rfl ty129 rfl)) ?_
  refine DrG.st (i := 11) [9, 13] rfl rfl rfl (by kernel_rfl) (OKG.T rfl rfl rfl (fun hg => have hg' := BP.t hg; OK1.len sl129 (Has.g rfl hg))) ?_
  refine DrG.st (i := 12) [9] rfl rfl rfl (by kernel_rfl) (OKG.T rfl rfl rfl (fun hg => have hg' := BP.t hg; OK1.mv (Has.t rfl))) ?_
  refine DrG.st (i := 13) [9, 15] rfl rfl rfl (by kernel_rfl) (OKG.T rfl rfl rfl (fun hg => have hg' := BP.t hg; OK1.nilc (Has.g rfl hg))) ?_
  refine DrG.st (i := 14) [9, 16] rfl rfl rfl (by kernel_rfl) (OKG.T rfl rfl rfl (fun hg => have hg' := BP.t hg; OK1.fieldAddr (Has.g rfl hg) fld131_0 ty93)) ?_
  refine DrG.st (i := 15) [9, 17] rfl rfl rfl (by kernel_rfl) (OKG.T rfl rfl rfl (fun hg => have hg' := BP.t hg; OK1.load1 (Has.g rfl hg) (i := 0) rfl ty93 rfl)) ?_
  refine DrG.st (i := 16) [9, 18] rfl rfl rfl (by kernel_rfl) (OKG.T rfl rfl rfl (fun hg => have hg' := BP.t hg; OK1.len sl93 (Has.g rfl hg))) ?_
  refine DrG.fin (n := 17) mixed (by kernel_rfl) (by kernel_rfl) (by kernel_rfl) ?_
  refine Ops.cv (Cv.wk (.cons (t := 0) (Has.t rfl) (.cons (t := 2) (Has.t rfl) (.cons (t := 3) (Has.t rfl) (.cons (t := 4) (Has.t rfl) (.cons (t := 5) (Has.t rfl) (.cons (t := 6) (Has.t rfl) (.cons (t := 7) (Has.t rfl) (.cons (t := 8) (Has.t rfl) (.cons (t := 9) (Has.t rfl) (.cons (t := 10) (Has.t rfl) (.cons (t := 11) (Has.t rfl) (.cons (t := 12) (Has.t rfl) (.cons (t := 13) (Has.t rfl) (.cons (t := 14) (Has.t rfl) (.cons (t := 15) (Has.t rfl) (.cons (t := 16) (Has.t rfl) (.cons (t := 17) (Has.t rfl) (.cons (t := 18) (Has.t rfl) (.cons (t := 19) (Has.t rfl) .nil)))))))))))))))))))) ?_
  refine stT rfl rfl (fun hg => have hg' := BP.t hg; OK1.ltI (Has.g rfl hg) (Has.g rfl hg)) rfl ?_
  refine st (OK1.pickAnd (Has.t rfl) (fun h => Has.g rfl h)) rfl ?_
  refine nl ?_
  refine At.thn (hK4 _ _ ?_); clear hK4
  refine Tri.cond (Has.t rfl) (fun hc1 => ?_) (fun hc1 => ?_)
  · have hc1 := BP.t hc1
    refine Tri.skip ?_
    refine At.thn (hK3 _ _ ?_); clear hK3
    refine Tri.seq fun K5 hK5 => ?_
    refine Tri.block ?_
    refine Tri.seq fun K6 hK6 => ?_
    refine Tri.region ?_
    refine st (OK1.mv (Has.t rfl)) rfl ?_
    refine st (OK1.mv (Has.t rfl)) rfl ?_
    refine Ops.callX (bareiss_find (col := c) hI.hrow hI.hb hC (by omega) (by omega) (by omega) (by omega)) (perm0 _) (.cons (Has.t rfl) (.cons (Has.t rfl) .nil)) rfl ?_
    rintro _ _ ⟨rs2, odd2, ok, rfl, rfl, hF⟩
    refine Ops.memEq (M' := wkM bw gp1 gt1 rs2 C ps1 last1 odd2) (List.append_nil _) ?_
    refine nl ?_
    refine At.thn (hK6 _ _ ?_); clear hK6
    refine Tri.cond (Has.t rfl) (fun hc2 => ?_) (fun hc2 => ?_)
    · have hc2 := BP.t hc2
      subst hc2
      obtain ⟨r0, h0, hl2, htR, hrow2, hb2, hrun⟩ := hI.yes (by omega) hF
      refine Tri.region ?_
      refine st (OK1.mv (Has.t rfl)) rfl ?_
      refine st (OK1.mv (Has.t rfl)) rfl ?_
      refine Ops.callX (bareiss_clear (col := c) (r0 := r0) hrow2 hb2 hC (by omega) (by omega) (by omega) (by omega) hI.hl h0) (perm0 _) (.cons (Has.t rfl) (.cons (Has.t rfl) .nil)) rfl ?_
      rintro _ _ ⟨gp3, gt3, rs3, rfl, rfl, hcl⟩
      refine Ops.memEq (M' := wkM bw gp3 gt3 rs3 C (ps1 ++ [c]) (cf r0.2 c) odd2) (List.append_nil _) ?_
      refine nl ?_
      refine At.bln ?_
      refine At.thn (hK5 _ _ ?_); clear hK5
      refine Tri.region ?_
      refine st (OK1.mv (Has.t rfl)) rfl ?_
      refine st (OK1.addI (Has.t rfl) (Has.cI 1 rfl) (by first | omega | assumption) (by first | omega | assumption)) rfl ?_
      refine st (OK1.as (Has.t rfl)) rfl ?_
      refine nl ?_
      refine At.thn ?_
      refine hK2 (⟨(c + 1, gp3, gt3, rs3, ps1 ++ [c], cf r0.2 c, odd2), hrun rs3 hcl⟩) _ _ ?_ (Cv.mem (.cons (t := 2) (Has.t' rfl ?_) (.cons (t := 0) (Has.t rfl) .nil)) ?_)
      · show C - (c + 1) < C - c; omega
      · exact isI_eq (by omega)
      · rfl
    · have hc2 := BP.f hc2
      subst hc2
      have hno := hI.no (by omega) hF
      refine Tri.skip ?_
      refine At.bln ?_
      refine At.thn (hK5 _ _ ?_); clear hK5
      refine Tri.region ?_
      refine st (OK1.mv (Has.t rfl)) rfl ?_
      refine st (OK1.addI (Has.t rfl) (Has.cI 1 rfl) (by first | omega | assumption) (by first | omega | assumption)) rfl ?_
      refine st (OK1.as (Has.t rfl)) rfl ?_
      refine nl ?_
      refine At.thn ?_
      refine hK2 (⟨(c + 1, gp1, gt1, rs2, ps1, last1, odd2), hno⟩) _ _ ?_ (Cv.mem (.cons (t := 2) (Has.t' rfl ?_) (.cons (t := 0) (Has.t rfl) .nil)) ?_)
      · show C - (c + 1) < C - c; omega
      · exact isI_eq (by omega)
      · rfl
  · have hc1 := BP.f hc1
    refine Tri.exit ?_
    refine At.the ?_
    refine At.the ?_
    refine At.blh ?_
    refine rtX0 (.inr rfl) Try.results151 rfl ?_
    exact ⟨gp1, gt1, rs1, ps1, last1, odd1, rfl, rfl, hI.fin (by omega)⟩
end Go.Proofs.Ytgkbekcpmbjbdaa
/- A matrix that has been reckoned on, handed on. -/
namespace Go.En
open Go.RowKit Go.Nt Go.Pz
set_option linter.unusedVariables false
section
variable {E : Env} {P : Program} {Γ : Ctx} {M : Mem}
theorem Sat.freezeRows {a : Act} {w : World} {A : Mem} (hW : E.W = []) : ∀ (rs : List Row) (F : Blk), Sat E Γ (A ++ rs.map rowM) a w F →
    ∃ F', (∀ b, F b → F' b) ∧ Sat E Γ A a w F' ∧ ∀ r ∈ rs, ∀ v, (rowV r).h w F v → (isP r.2).h w F' v
  | [], F, s => ⟨F, fun _ h => h, by rw [List.map_nil, List.append_nil] at s; exact s, by simp⟩
  | r :: rs, F, s => by
    have hM : (A ++ (r :: rs).map rowM)[A.length]? = some (r.1.ob, cellM ((r.2.map nz ++ r.1.sp).flatMap zc)) := by
      rw [List.getElem?_append_right (Nat.le_refl _), Nat.sub_self]; rfl
    obtain ⟨F1, h1, s1, c1⟩ := s.freezeGr (k := 2) (g := r.1) (n := (r.2.map nz).length) hW hM (gr_lenK zc_len) (gr_takeK zc_len)
    have he : (A ++ (r :: rs).map rowM).eraseIdx A.length = A ++ rs.map rowM := by
      rw [List.eraseIdx_append_of_length_le (Nat.le_refl _), Nat.sub_self]; rfl
    rw [he] at s1
    obtain ⟨F2, h2, s2, c2⟩ := Sat.freezeRows hW rs F1 s1
    refine ⟨F2, fun b hb => h2 b (h1 b hb), s2, fun q hq v hv => ?_⟩
    rcases List.mem_cons.1 hq with rfl | hq
    · exact (isP q.2).mono _ _ _ _ _ (c1 v hv) (fun _ _ => rfl) h2
    · exact c2 q hq v hv
theorem All2.conv {α : Type} {f g : α → VP} {w : World} {F : Blk} : ∀ {xs : List α} {Us : List VP} {vs : List Value}, (∀ x ∈ xs, ∀ v, (f x).h w F v → (g x).h w F v) → All2 (xs.map f ++ Us) w F vs → All2 (xs.map g ++ Us) w F vs
  | [], Us, vs, _, h => h
  | x :: xs, Us, v :: vs, hc, h => ⟨hc x (by simp) v h.1, All2.conv (fun y hy => hc y (by simp [hy])) h.2⟩
  | _ :: _, _, [], _, h => h.elim
theorem Sat.memSetO {a : Act} {w : World} {F : Blk} {i : Nat} {ob : Option Nat} {C C' : MP} (s : Sat E Γ M a w F) (hM : M[i]? = some (ob, C)) (h : ∀ o, C.h w F o → C'.h w F o) : Sat E Γ (M.set i (ob, C')) a w F := by
  cases ob with
  | some b => exact s.memSet hM h
  | none =>
    refine { s with mem := ⟨?_, fun b D hb => ?_⟩ }
    · rw [List.pairwise_iff_getElem]
      intro j k hj hk hjk
      have hp := List.pairwise_iff_getElem.1 s.mem.apart j k (by simpa using hj) (by simpa using hk) hjk
      simp only [List.getElem_set]
      have hi : i < M.length := by
        rcases Nat.lt_or_ge i M.length with h' | h'
        · exact h'
        · rw [List.getElem?_eq_none h'] at hM; cases hM
      have hMi : M[i] = (none, C) := by rw [List.getElem?_eq_getElem hi] at hM; exact Option.some.inj hM
      by_cases e1 : i = j
      · simp [e1]
      · by_cases e2 : i = k
        · subst e2
          simp only [e1, if_true, if_false]
          rw [hMi] at hp
          exact hp
        · simp only [e1, e2, if_false]; exact hp
    · obtain ⟨j, hj, he⟩ := List.mem_iff_getElem.1 hb
      simp only [List.getElem_set] at he
      by_cases e1 : i = j
      · simp only [e1, if_true] at he; cases he
      · simp only [e1, if_false] at he
        exact s.mem.each b D (he ▸ List.getElem_mem _)
theorem Cv.freezeRows {A : Mem} {i : Nat} {gt : Gr Row} {rs : List Row} (hW : E.W = []) (hA : A[i]? = some (grM rowV gt rs)) :
    Cv E Γ (A ++ rs.map rowM) Γ (A.set i (gt.ob, cellM (rs.map (fun r => isP r.2) ++ gt.sp.map rowV))) := fun a w F s => by
  obtain ⟨F', hsub, s', hc⟩ := s.freezeRows hW rs F
  refine ⟨F', s'.memSetO hA fun o ⟨vs, ty, e, h⟩ => ⟨vs, ty, e, ?_⟩⟩
  rw [List.map_append] at h
  exact All2.conv (f := rowV) (g := fun r => isP r.2) (fun r hr v hv => hc r hr v hv) h
theorem rowsOf_all {R C K : Nat} {L : List Int} {rs : List Row} (hL : Bd L K) (h : rs.map Prod.snd = Go.En.rowsOf R C L) : (∀ r ∈ rs, r.2.length = C) ∧ ∀ r ∈ rs, Bd r.2 K := by
  have key : ∀ r ∈ rs, ∃ i, r.2 = (List.range C).map fun k => cf L (i * C + k) := by
    intro r hr
    have hm : r.2 ∈ rs.map Prod.snd := List.mem_map.2 ⟨r, hr, rfl⟩
    rw [h] at hm
    obtain ⟨i, _, e⟩ := List.mem_map.1 hm
    exact ⟨i, e.symm⟩
  refine ⟨fun r hr => ?_, fun r hr => ?_⟩
  · obtain ⟨i, e⟩ := key r hr
    rw [e, List.length_map, List.length_range]
  · obtain ⟨i, e⟩ := key r hr
    intro k
    rw [e, cf_tab]
    split
    · exact hL _
    · rw [Int.natAbs_zero, words_zero]; exact Nat.zero_le _
theorem rowsSl {rs : List Row} : SlL 1 rs.length (rs.map fun r => isP r.2) = SlM isP (rs.map Prod.snd) := by
  unfold SlM
  rw [List.length_map, List.map_map]; rfl
/-- all that a work knows, as it stays -/
abbrev wkF (rows : List (List Int)) (C : Nat) (ps : List Nat) (last : Int) (odd : Bool) : VP := PtrL [SlM isP rows, isI (C : Int), SlM isI (pv ps), isB (decide (last < 0)), SlM isU (words last.natAbs), isB odd]
theorem Cv.freezeWk {t bw C : Nat} {gp : Gr Int} {gt : Gr Row} {rs : List Row} {ps : List Nat} {last : Int} {odd : Bool} (hW : E.W = []) (ht : look Γ t = some (isPtr bw 0)) :
    Cv E Γ (wkM bw gp gt rs C ps last odd) ((t, wkF (rs.map Prod.snd) C ps last odd) :: Γ) [] := by
  have h1 := Cv.freezeRows (E := E) (Γ := Γ) (A := [wk0 bw gp gt rs.length C ps last odd, grM isI gp (pv ps), grM rowV gt rs]) (i := 2) hW rfl
  refine Cv.trans h1 ?_
  have hl : rs.length * 1 ≤ (rs.map (fun r => isP r.2) ++ gt.sp.map rowV).length := by rw [List.length_append, List.length_map]; omega
  have he : (rs.map (fun r => isP r.2) ++ gt.sp.map rowV).take (rs.length * 1) = rs.map fun r => isP r.2 := by rw [Nat.mul_one, List.take_left' (by rw [List.length_map])]
  have h2 := Cv.freezeF (E := E) (Γ := Γ) (M := [wk0 bw gp gt rs.length C ps last odd, grM isI gp (pv ps), (gt.ob, cellM (rs.map (fun r => isP r.2) ++ gt.sp.map rowV))]) (k := 1) (i := 2) (j := 0) (o := 0) (g := gt) (n := rs.length) hW rfl rfl rfl hl he rfl
  refine Cv.trans h2 ?_
  have h3 := Cv.freezeF (E := E) (Γ := Γ) (M := [(some bw, cellM [SlL 1 rs.length (rs.map fun r => isP r.2), isI (C : Int), isGr gp (pv ps).length, isB (decide (last < 0)), SlM isU (words last.natAbs), isB odd]), grM isI gp (pv ps)]) (k := 1) (i := 1) (j := 0) (o := 2) (g := gp) (n := (pv ps).length) hW rfl rfl rfl gr_lenM gr_takeM rfl
  refine Cv.trans h3 ?_
  rw [rowsSl]
  exact Cv.freezeBox (i := 0) hW ht rfl
end
end Go.En
/- Contracts: a determinant, as it is reckoned. -/
namespace Go.Proofs.Ytgkbekcpmbjbdaa
open Go.En Go.RowKit
set_option linter.unusedVariables false
set_option maxRecDepth 10000
open Go.Nt
open Go.Pz
open Go.Mz
set_option maxHeartbeats 4000000 in
theorem bareiss_done {R C K : Nat} {xs : List (Bool × List Nat)} (hx : Bd (vals xs) K) (hK1 : 1 ≤ K) (hR : R ≤ 64) (hC : C ≤ 64) (hl : xs.length = R * C) (hK : (K + 1) * 2 ^ R ≤ 100000000) : CtrX Try.prog 125 [isM (R : Int) (C : Int) xs] ([]) (fun S M => ∃ rs ps last odd, S = isTup [wkF (rs.map Prod.snd) C ps last odd, isI 0] ∧ M = [] ∧ RunI ⟨rowsOf R C (vals xs), [], 1, false⟩ C K R C rs ps last odd) := by
  refine CtrX.intro Try.func125 rfl (by kernel_rfl) Try.ntmps125 rfl fun w0 F0 => ?_
  refine Tri.cv (Cv.wk (.cons (t := 0) (Has.t rfl) .nil)) ?_
  have hfo := formB_true hR hC hl
  refine Tri.seq fun K1 hK1 => ?_
  refine Tri.region ?_
  refine Ops.box (Has.t rfl) rfl fun b1 => ?_
  refine st (OK1.as Has.cP) rfl ?_
  refine st (OK1.as (Has.cI 0 rfl)) rfl ?_
  refine nl ?_
  refine At.thn (hK1 _ _ ?_); clear hK1
  refine Tri.seq fun K2 hK2 => ?_
  refine Tri.seq fun K3 hK3 => ?_
  refine Tri.region ?_
  refine st (OK1.load (Has.t rfl) (i := 0) rfl ty24 rfl (Ss' := [_, _, _]) rfl) rfl ?_
  refine st (OK1.eq (OK1.call (zmat_Formed) (.cons (Has.t rfl) .nil)) ((show isB _ = isB true from isB_eq hfo))) rfl ?_
  refine st (OK1.not (Has.t rfl)) rfl ?_
  refine nl ?_
  refine At.thn (hK3 _ _ ?_); clear hK3
  refine Tri.cond (Has.t rfl) (fun hc1 => ?_) (fun hc1 => ?_)
  · have hc1 := BP.t hc1
    simp at hc1
  · have hc1 := BP.f hc1
    refine Tri.skip ?_
    refine At.thn (hK2 _ _ ?_); clear hK2
    refine Tri.seq fun K4 hK4 => ?_
    refine Tri.region ?_
    refine st (OK1.load (Has.t rfl) (i := 0) rfl ty24 rfl (Ss' := [_, _, _]) rfl) rfl ?_
    refine Ops.cv (Cv.drop ((.cons _ .slnil))) ?_
    refine Ops.cv (Cv.wk (.cons (t := 0) (Has.t rfl) (.cons (t := 2) (Has.t rfl) (.cons (t := 3) (Has.t rfl) (.cons (t := 5) (Has.t rfl) (.cons (t := 6) (Has.t rfl) (.cons (t := 7) (Has.t rfl) (.cons (t := 8) (Has.t rfl) .nil)))))))) ?_
    refine Ops.callX (bareiss_begun hx (by have := Nat.mul_le_mul_left (K + 1) (Nat.one_le_pow R 2 (by decide)); omega) hR hC hl) (perm0 _) (.cons (Has.t rfl) .nil) rfl ?_
    rintro _ _ ⟨bw, gt, rs0, rfl, rfl, hrs0⟩
    have hl0 : rs0.length = R := by have := congrArg List.length hrs0; rwa [List.length_map, rowsOf_len] at this
    obtain ⟨hrow0, hb0⟩ := rowsOf_all hx hrs0
    refine Ops.memEq (M' := wkM bw Gr.nil gt rs0 C [] 1 false) (List.append_nil _) ?_
    refine st (OK1.as (Has.t rfl)) rfl ?_
    refine nl ?_
    refine At.thn (hK4 _ _ ?_); clear hK4
    refine Tri.cv (Cv.wk (.cons (t := 2) (Has.t rfl) (.cons (t := 3) (Has.t rfl) (.cons (t := 4) (Has.t rfl) .nil)))) ?_
    refine Tri.seq fun K5 hK5 => ?_
    refine Tri.region ?_
    refine st (OK1.mv (Has.t rfl)) rfl ?_
    refine Ops.callX (bareiss_run (rs := rs0) hrow0 hb0 hC (by omega) hK1 (by rw [hl0]; exact hK)) (perm0 _) (.cons (Has.t rfl) .nil) rfl ?_
    rintro _ _ ⟨gp, gt2, rs, ps, last, odd, rfl, rfl, hRun⟩
    rw [hrs0, hl0] at hRun
    refine Ops.memEq (M' := wkM bw gp gt2 rs C ps last odd) (List.append_nil _) ?_
    refine nl ?_
    refine At.thn (hK5 _ _ ?_); clear hK5
    refine Tri.seq fun K6 hK6 => ?_
    refine Tri.cv (Cv.freezeWk (t := 4) rfl rfl) ?_
    refine Tri.region ?_
    refine st (OK1.mv (Has.t rfl)) rfl ?_
    refine st (OK1.as (Has.t rfl)) rfl ?_
    refine st (OK1.as (Has.cI 0 rfl)) rfl ?_
    refine nl ?_
    refine At.thn (hK6 _ _ ?_); clear hK6
    refine Tri.ret ?_
    refine rtXN (.inl rfl) Try.results125 rfl rfl (.tmp (Has.t rfl) (.tmp (Has.t rfl) .nil)) ?_
    exact ⟨rs, ps, last, odd, rfl, rfl, hRun⟩
set_option maxHeartbeats 4000000 in
theorem bareiss_DetX {R K : Nat} {xs : List (Bool × List Nat)} (hx : Bd (vals xs) K) (hK1 : 1 ≤ K) (hR : R ≤ 64) (hl : xs.length = R * R) (hK : (K + 1) * 2 ^ R ≤ 100000000) : CtrX Try.prog 81 [isM (R : Int) (R : Int) xs] ([]) (fun S M => ∃ rs ps last odd, S = isTup [isZ (if ps.length < R then 0 else if odd = true then -last else last), isI 0] ∧ RunI ⟨rowsOf R R (vals xs), [], 1, false⟩ R K R R rs ps last odd) := by
  refine CtrX.intro Try.func81 rfl (by kernel_rfl) Try.ntmps81 rfl fun w0 F0 => ?_
  refine Tri.cv (Cv.wk (.cons (t := 0) (Has.t rfl) .nil)) ?_
  refine Tri.seq fun K1 hK1 => ?_
  refine Tri.region ?_
  refine Ops.box (Has.t rfl) rfl fun b1 => ?_
  refine Ops.alloc [isB false, SlM isU []] zero44 (fun _ _ => ⟨rfl, nilM _ _, trivial⟩) rfl fun b2 => ?_
  refine st (OK1.as (Has.cI 0 rfl)) rfl ?_
  refine nl ?_
  refine At.thn (hK1 _ _ ?_); clear hK1
  refine Tri.seq fun K2 hK2 => ?_
  refine Tri.seq fun K3 hK3 => ?_
  refine Tri.region ?_
  refine st (OK1.fieldAddr (Has.t rfl) fld24_0 ty3) rfl ?_
  refine st (OK1.load1 (Has.t rfl) (i := 1) rfl ty3 rfl) rfl ?_
  refine st (OK1.fieldAddr (Has.t rfl) fld24_1 ty3) rfl ?_
  refine st (OK1.load1 (Has.t rfl) (i := 1) rfl ty3 rfl) rfl ?_
  refine st (OK1.neI (Has.t rfl) (Has.t rfl)) rfl ?_
  refine nl ?_
  refine At.thn (hK3 _ _ ?_); clear hK3
  refine Tri.cv (Cv.wk (.cons (t := 1) (Has.t rfl) (.cons (t := 2) (Has.t rfl) (.cons (t := 3) (Has.t rfl) (.cons (t := 10) (Has.t rfl) .nil))))) ?_
  refine Tri.cond (Has.t rfl) (fun hc1 => ?_) (fun hc1 => ?_)
  · have hc1 := BP.t hc1
    exact absurd rfl hc1
  · have hc1 := BP.f hc1
    refine Tri.skip ?_
    refine At.thn (hK2 _ _ ?_); clear hK2
    refine Tri.seq fun K4 hK4 => ?_
    refine Tri.region ?_
    refine st (OK1.load (Has.t rfl) (i := 1) rfl ty24 rfl (Ss' := [_, _, _]) rfl) rfl ?_
    refine Ops.callX (bareiss_done hx hK1 hR hR hl hK) (List.Perm.refl _) (.cons (Has.t rfl) .nil) rfl ?_
    rintro _ _ ⟨rs, ps, last, odd, rfl, rfl, hRun⟩
    have hpv := pv_len ps
    have hps := hRun.hps
    have hbn := hRun.bnd
    have hl1 := hRun.hl
    refine st (OK1.mv (Has.t rfl)) rfl ?_
    refine st (OK1.ext (Has.t rfl) rfl) rfl ?_
    refine st (OK1.ext (Has.t rfl) rfl) rfl ?_
    refine st (OK1.as (Has.t rfl)) rfl ?_
    refine st (OK1.as (Has.t rfl)) rfl ?_
    refine nl ?_
    refine At.thn (hK4 _ _ ?_); clear hK4
    refine Tri.cv (Cv.wk (.cons (t := 1) (Has.t rfl) (.cons (t := 2) (Has.t rfl) (.cons (t := 3) (Has.t rfl) (.cons (t := 4) (Has.t rfl) (.cons (t := 5) (Has.t rfl) .nil)))))) ?_
    refine Tri.seq fun K5 hK5 => ?_
    refine Tri.block ?_
    refine Tri.seq fun K6 hK6 => ?_
    refine Tri.region ?_
    refine st (OK1.mv (Has.t rfl)) rfl ?_
    refine st (OK1.neI (Has.t rfl) (Has.cI 0 rfl)) rfl ?_
    refine st (OK1.as (Has.t rfl)) rfl ?_
    refine nl ?_
    refine At.thn (hK6 _ _ ?_); clear hK6
    refine Tri.cond (Has.t rfl) (fun hc2 => ?_) (fun hc2 => ?_)
    · have hc2 := BP.t hc2
      simp at hc2
    · have hc2 := BP.f hc2
      refine Tri.seq fun K7 hK7 => ?_
      refine Tri.dr ?_
      refine DrG.st (i := 0) [] rfl rfl rfl (by kernel_rfl) (OKG.o rfl (OK1.mv (Has.t rfl))) ?_
      refine DrG.st (i := 1) [23] rfl rfl rfl (by kernel_rfl) (OKG.o rfl (OK1.nilcP (Has.t rfl))) ?_
      refine DrG.st (i := 2) [24] rfl rfl rfl (by kernel_rfl) (OKG.o rfl (OK1.fieldAddrP (Has.t rfl) fld131_2 ty129 (Ss' := [_, _, _, _]) rfl)) ?_
      refine DrG.st (i := 3) [25] rfl rfl rfl (by kernel_rfl) (OKG.o rfl (OK1.loadP1 (Has.t rfl) ty129)) ?_
      refine DrG.st (i := 4) [26] rfl rfl rfl (by kernel_rfl) (OKG.o rfl (OK1.len sl129 (Has.t rfl))) ?_
      refine DrG.st (i := 5) [] rfl rfl rfl (by kernel_rfl) (OKG.o rfl (OK1.fieldAddr (Has.t rfl) fld24_0 ty3)) ?_
      refine DrG.st (i := 6) [28] rfl rfl rfl (by kernel_rfl) (OKG.o rfl (OK1.load1 (Has.t rfl) (i := 1) rfl ty3 rfl)) ?_
      refine DrG.fin (n := 7) mixed (by kernel_rfl) (by kernel_rfl) (by kernel_rfl) ?_
      refine Ops.cv (Cv.wk (.cons (t := 2) (Has.t rfl) (.cons (t := 3) (Has.t rfl) (.cons (t := 4) (Has.t rfl) (.cons (t := 27) (Has.t rfl) (.cons (t := 29) (Has.t rfl) .nil)))))) ?_
      refine st (OK1.ltI (Has.t rfl) (Has.t rfl)) rfl ?_
      refine st (OK1.as (Has.t rfl)) rfl ?_
      refine nl ?_
      refine At.thn (hK7 _ _ ?_); clear hK7
      refine Tri.cond (Has.t rfl) (fun hc3 => ?_) (fun hc3 => ?_)
      · have hc3 := BP.t hc3
        refine Tri.seq fun K8 hK8 => ?_
        refine Tri.region ?_
        refine st (OK1.build [isB false, SlM isU []] pl44 zero44 (fun _ _ => ⟨rfl, nilM _ _, trivial⟩) .nil (Z'' := [_, _]) rfl) rfl ?_
        refine Ops.store (Has.t rfl) (Has.t rfl) (i := 0) rfl ty44 rfl rfl (Ss' := [_, _]) rfl (M' := [(some _, cellM [_, _]), _]) rfl ?_
        refine st (OK1.as (Has.cI 0 rfl)) rfl ?_
        refine nl ?_
        refine At.thn (hK8 _ _ ?_); clear hK8
        refine Tri.cv (Cv.wk (.cons (t := 2) (Has.t rfl) (.cons (t := 3) (Has.t rfl) (.cons (t := 4) (Has.t rfl) .nil)))) ?_
        refine Tri.ret ?_
        refine At.blr ?_
        refine At.thr ?_
        refine rtXN (.inl rfl) Try.results81 rfl rfl (.cell rfl (i := 0) rfl ty44 rfl rfl (.tmp (Has.t rfl) .nil)) ?_
        exact ⟨rs, ps, last, odd, congrArg (fun s => isTup [s, isI 0]) (isZ0.trans (isZ_eq (by rw [if_pos (by omega)]))), hRun⟩
      · have hc3 := BP.f hc3
        refine Tri.seq fun K9 hK9 => ?_
        refine Tri.region ?_
        refine st (OK1.mv (Has.t rfl)) rfl ?_
        refine st (OK1.nilcP (Has.t rfl)) rfl ?_
        refine st (OK1.fieldAddrP (Has.t rfl) fld131_4 ty4 (Ss' := [_]) rfl) rfl ?_
        refine st (OK1.loadP1 (Has.t rfl) ty4) rfl ?_
        refine st (OK1.as (Has.t rfl)) rfl ?_
        refine nl ?_
        refine At.thn (hK9 _ _ ?_); clear hK9
        refine Tri.cv (Cv.wk (.cons (t := 2) (Has.t rfl) (.cons (t := 3) (Has.t rfl) (.cons (t := 4) (Has.t rfl) (.cons (t := 32) (Has.t rfl) .nil))))) ?_
        refine Tri.cond (Has.t rfl) (fun hc4 => ?_) (fun hc4 => ?_)
        · have hc4 := BP.t hc4
          refine Tri.seq fun K10 hK10 => ?_
          refine Tri.region ?_
          refine st (OK1.mv (Has.t rfl)) rfl ?_
          refine st (OK1.nilcP (Has.t rfl)) rfl ?_
          refine st (OK1.fieldAddrP (Has.t rfl) fld131_3 ty44 (Ss' := [_, _, _]) rfl) rfl ?_
          refine st (OK1.loadP (Has.t rfl) ty44 rfl (Ss' := [_, _]) rfl) rfl ?_
          refine st (OK1.eq (OK1.call (zint_Neg (by rw [val_words]; omega)) (.cons (Has.t rfl) .nil)) ((show isZ _ = isZ (-last) from isZ_eq (by rw [zv_nf])))) rfl ?_
          refine Ops.store (Has.t rfl) (Has.t rfl) (i := 0) rfl ty44 rfl rfl (Ss' := [_, _]) rfl (M' := [(some _, cellM [_, _]), _]) rfl ?_
          refine st (OK1.as (Has.cI 0 rfl)) rfl ?_
          refine nl ?_
          refine At.thn (hK10 _ _ ?_); clear hK10
          refine Tri.cv (Cv.wk (.cons (t := 2) (Has.t rfl) (.cons (t := 3) (Has.t rfl) (.cons (t := 4) (Has.t rfl) .nil)))) ?_
          refine Tri.ret ?_
          refine At.blr ?_
          refine At.thr ?_
          refine rtXN (.inl rfl) Try.results81 rfl rfl (.cell rfl (i := 0) rfl ty44 rfl rfl (.tmp (Has.t rfl) .nil)) ?_
          exact ⟨rs, ps, last, odd, congrArg (fun s => isTup [s, isI 0]) (isZ_eq (by rw [if_neg (by omega), if_pos (by assumption)])), hRun⟩
        · have hc4 := BP.f hc4
          refine Tri.skip ?_
          refine At.bln ?_
          refine At.thn (hK5 _ _ ?_); clear hK5
          refine Tri.seq fun K11 hK11 => ?_
          refine Tri.region ?_
          refine st (OK1.mv (Has.t rfl)) rfl ?_
          refine st (OK1.nilcP (Has.t rfl)) rfl ?_
          refine st (OK1.fieldAddrP (Has.t rfl) fld131_3 ty44 (Ss' := [_, _, _]) rfl) rfl ?_
          refine st (OK1.loadP (Has.t rfl) ty44 rfl (Ss' := [_, _]) rfl) rfl ?_
          refine Ops.store (Has.t rfl) (Has.t rfl) (i := 0) rfl ty44 rfl rfl (Ss' := [_, _]) rfl (M' := [(some _, cellM [_, _]), _]) rfl ?_
          refine st (OK1.as (Has.cI 0 rfl)) rfl ?_
          refine nl ?_
          refine At.thn (hK11 _ _ ?_); clear hK11
          refine Tri.cv (Cv.wk (.cons (t := 2) (Has.t rfl) (.cons (t := 3) (Has.t rfl) .nil))) ?_
          refine Tri.ret ?_
          refine rtXN (.inl rfl) Try.results81 rfl rfl (.cell rfl (i := 0) rfl ty44 rfl rfl (.tmp (Has.t rfl) .nil)) ?_
          exact ⟨rs, ps, last, odd, congrArg (fun s => isTup [s, isI 0]) (isZ_eq (by rw [if_neg (by omega), if_neg (by simp [*])])), hRun⟩
end Go.Proofs.Ytgkbekcpmbjbdaa
/- Contracts: a determinant. -/
namespace Go.Proofs.Ytgkbekcpmbjbdaa
open Go.En Go.RowKit
set_option linter.unusedVariables false
set_option maxRecDepth 10000
open Go.Nt
open Go.Pz
open Go.Mz
open Go.Dt
theorem bareiss_Det {R K : Nat} {xs : List (Bool × List Nat)} (hx : Bd (vals xs) K) (hK1 : 1 ≤ K) (hR : R ≤ 64) (hl : xs.length = R * R) (hK : (K + 1) * 2 ^ R ≤ 100000000) : Ctr Try.prog 81 [isM (R : Int) (R : Int) xs] (isTup [isZ (det R (mf R (vals xs))), isI 0]) :=
  (bareiss_DetX hx hK1 hR hl hK).toCtr fun S' M' hh => by
    obtain ⟨rs, ps, last, odd, e, hr⟩ := hh
    obtain ⟨q, hq⟩ := BI.all (BI.start (mf R (vals xs)) (R := R) (C := R) (L := vals xs) fun _ _ _ _ => rfl) hr.run (Nat.le_refl _)
    have hd := hq.detE
    simp only [] at hd
    rw [e, ← hd]
end Go.Proofs.Ytgkbekcpmbjbdaa
/- The adjugate by minors, and by the characteristic polynomial. No program here. -/
namespace Go.Ch
open Go.Dt Go.Dt.RowF Go.Pz Go.Nt Go.Mz Go.En Go.Hp
theorem sg_add (a b : Nat) : sg (a + b) = sg a * sg b := by
  induction b with
  | zero => show sg a = sg a * 1; omega
  | succ b ih =>
    have e : sg (a + (b + 1)) = -(sg (a + b)) := sg_succ (a + b)
    rw [e, ih, sg_succ, Int.mul_neg]
/-- a sum without one place -/
theorem sm_skip {f : Nat → Int} {i : Nat} : ∀ {n : Nat}, i < n + 1 → f i = 0 → sm (n + 1) f = sm n fun c => f (skip i c)
  | n, hi, h0 => by
    have key : ∀ m, (sm m f = if m ≤ i then sm m (fun c => f (skip i c)) else sm (m - 1) fun c => f (skip i c)) := by
      intro m
      induction m with
      | zero => rw [if_pos (Nat.zero_le _)]; rfl
      | succ m ih =>
        show sm m f + f m = _
        rw [ih]
        by_cases h1 : m + 1 ≤ i
        · rw [if_pos (by omega), if_pos h1]
          show _ = sm m (fun c => f (skip i c)) + f (skip i m)
          rw [show skip i m = m from if_pos (by omega)]
        · rw [if_neg h1]
          by_cases h2 : m ≤ i
          · rw [if_pos h2, show m = i by omega, h0, Int.add_zero]; rfl
          · rw [if_neg h2]
            obtain ⟨k, rfl⟩ : ∃ k, m = k + 1 := ⟨m - 1, by omega⟩
            show sm k (fun c => f (skip i c)) + f (k + 1) = sm k (fun c => f (skip i c)) + f (skip i k)
            rw [show skip i k = k + 1 from if_neg (by omega)]
    rw [key (n + 1), if_neg (by omega)]; rfl
/-- where a row is that of one place, the determinant is a minor's -/
theorem det_unit : ∀ {n : Nat} (A : MatF) {r i : Nat}, r < n + 1 → i < n + 1 → det (n + 1) (setr A r (one i)) = sg (r + i) * det n fun p q => A (skip r p) (skip i q)
  | 0, A, r, i, hr, hi => by
    obtain rfl : r = 0 := by omega
    obtain rfl : i = 0 := by omega
    show 0 + sg 0 * (setr A 0 (one 0) 0 0 * 1) = sg 0 * 1
    rw [show setr A 0 (one 0) 0 0 = 1 from rfl]; omega
  | n + 1, A, 0, i, _, hi => by
    rw [det_succ, sm_one (c := i) hi fun c _ hne => by rw [show setr A 0 (one i) 0 c = one i c from rfl]; unfold one; rw [if_neg (fun e => hne e.symm), Int.zero_mul, Int.mul_zero]]
    rw [show setr A 0 (one i) 0 i = 1 from by show one i i = 1; exact if_pos rfl, Int.one_mul, Nat.zero_add]
    congr 1
  | n + 1, A, r + 1, i, hr, hi => by
    rw [det_succ]
    have e0 : (fun k => sg k * (setr A (r + 1) (one i) 0 k * det (n + 1) fun p q => setr A (r + 1) (one i) (p + 1) (skip k q))) = fun k => sg k * (A 0 k * det (n + 1) (setr (fun p q => A (p + 1) (skip k q)) r fun q => one i (skip k q))) := by
      funext k
      congr 2
      congr 1
      funext p q
      unfold setr
      by_cases e : p = r
      · rw [if_pos (by omega), if_pos e]
      · rw [if_neg (by omega), if_neg e]
    rw [e0]
    rw [sm_skip hi (f := fun k => sg k * (A 0 k * det (n + 1) (setr (fun p q => A (p + 1) (skip k q)) r fun q => one i (skip k q)))) (by
      show sg i * (A 0 i * det (n + 1) (setr (fun p q => A (p + 1) (skip i q)) r fun q => one i (skip i q))) = 0
      rw [(det_rowF (n + 1)).zero (show r < n + 1 by omega) fun q _ => by rw [set_at]; unfold one; exact if_neg (fun e => skip_ne i q e.symm), Int.mul_zero, Int.mul_zero])]
    rw [det_succ, ← sm_smul]
    refine sm_congr fun c hc => ?_
    show sg (skip i c) * (A 0 (skip i c) * det (n + 1) (setr (fun p q => A (p + 1) (skip (skip i c) q)) r fun q => one i (skip (skip i c) q))) = sg (r + 1 + i) * (sg c * (A (skip (r + 1) 0) (skip i c) * det n fun p q => A (skip (r + 1) (p + 1)) (skip i (skip c q))))
    have hne : i ≠ skip i c := fun e => skip_ne i c e.symm
    have hone : (fun q => one i (skip (skip i c) q)) = one (unskip (skip i c) i) := by
      funext q
      unfold one
      by_cases e : skip (skip i c) q = i
      · rw [if_pos e.symm, if_pos ((skip_eq hne).1 e).symm]
      · rw [if_neg (fun h => e h.symm), if_neg (fun h => e ((skip_eq hne).2 h.symm))]
    have hu : unskip (skip i c) i < n + 1 := unskip_lt hi (skip_lt hc) hne
    rw [hone, det_unit _ (show r < n + 1 by omega) hu]
    have hcol : (fun p q => A (skip r p + 1) (skip (skip i c) (skip (unskip (skip i c) i) q))) = fun p q => A (skip (r + 1) (p + 1)) (skip i (skip c q)) := by
      funext p q
      have h1 : skip r p + 1 = skip (r + 1) (p + 1) := by unfold skip; (repeat' split) <;> omega
      have h2 : skip (skip i c) (skip (unskip (skip i c) i) q) = skip i (skip c q) := by unfold skip unskip; (repeat' split) <;> omega
      rw [h1, h2]
    rw [hcol, show skip (r + 1) 0 = 0 from if_pos (by omega)]
    have hs : sg (skip i c) * sg (r + unskip (skip i c) i) = sg (r + 1 + i) * sg c := by
      rw [← sg_add, ← sg_add]
      unfold skip unskip sg
      (repeat' split) <;> first | rfl | omega
    generalize (det n fun p q => A (skip (r + 1) (p + 1)) (skip i (skip c q))) = d
    generalize A 0 (skip i c) = a
    generalize sg (skip i c) = s1 at *
    generalize sg (r + unskip (skip i c) i) = s2 at *
    generalize sg (r + 1 + i) = s3 at *
    generalize sg c = s4 at *
    rw [show s1 * (a * (s2 * d)) = s1 * s2 * (a * d) by grind, hs]
    grind
/-! ### what the program tells -/
theorem ca_zero {n : Nat} (A : MatF) {i j : Nat} (hj : j < n) : ca n A 0 i j = -((-1 : Int) ^ n) * det n (setr A j (one i)) := by
  have h := ca_ev A i hj 0
  rw [pe_left, Int.zero_mul, Int.add_zero] at h
  rw [← h]
  have e : det n (setr (xm A 0) j (one i)) = det n (fun r c => (-1 : Int) * setr A j (fun q => -1 * one i q) r c) := det_congr fun r c _ _ => by
    unfold setr xm
    by_cases g : r = j
    · rw [if_pos g, if_pos g]; dsimp only; omega
    · rw [if_neg g, if_neg g]; omega
  rw [e, det_smul, (det_rowF n).smul A hj]
  grind
/-- the minor without a row and a column -/
def minL (n : Nat) (L : List Int) (r i : Nat) : List Int := tab (n * n) n fun p q => mf (n + 1) L (skip r p) (skip i q)
/-- the adjugate, by minors -/
def adjL : Nat → List Int → List Int
  | 0, _ => []
  | n + 1, L => tab ((n + 1) * (n + 1)) (n + 1) fun i k => sg (i + k) * det n (mf n (minL n L k i))
theorem adj_same {n : Nat} {L : List Int} : (if n % 2 = 0 then sclL n n (-1) (flM n L n) else flM n L n) = adjL n L := by
  cases n with
  | zero => rfl
  | succ n =>
    have hl : ∀ X : List Int, X.length = (n + 1) * (n + 1) → ((if (n + 1) % 2 = 0 then sclL (n + 1) (n + 1) (-1) X else X).length = (n + 1) * (n + 1)) := fun X h => by
      split
      · exact tab_len _ _ _
      · exact h
    refine mat_ext (hl _ (flM_len _ _ _)) (by unfold adjL; exact tab_len _ _ _) fun i k hi hk => ?_
    have e1 : mf (n + 1) (flM (n + 1) L (n + 1)) i k = -((-1 : Int) ^ (n + 1)) * (sg (k + i) * det n fun p q => mf (n + 1) L (skip k p) (skip i q)) := by
      rw [flM_at hi hk, Nat.sub_self, ca_zero _ hk, det_unit _ hk hi]
    have e2 : mf (n + 1) (adjL (n + 1) L) i k = sg (k + i) * det n fun p q => mf (n + 1) L (skip k p) (skip i q) := by
      show cf _ (i * (n + 1) + k) = _
      unfold adjL
      rw [cf_tab' _ hk (place_lt hi hk), Nat.add_comm i k]
      congr 1
      refine det_congr fun p q hp hq => ?_
      show cf _ (p * n + q) = _
      unfold minL
      rw [cf_tab' _ hq (place_lt hp hq)]
    have hpow : ∀ m : Nat, (-1 : Int) ^ m = sg m := fun m => by
      induction m with
      | zero => rfl
      | succ m ih => rw [Int.pow_succ, ih, sg_succ]; omega
    rw [e2]
    rw [hpow] at e1
    by_cases h : (n + 1) % 2 = 0
    · rw [if_pos h, sclL_at hi hk, e1]
      have : sg (n + 1) = 1 := if_neg (by omega)
      rw [this]; grind
    · rw [if_neg h, e1]
      have : sg (n + 1) = -1 := if_pos (by omega)
      rw [this]; grind
end Go.Ch
/- Contracts: adjugates. -/
namespace Go.Proofs.Ytgkbekcpmbjbdaa
open Go.En Go.RowKit
set_option linter.unusedVariables false
set_option maxRecDepth 10000
open Go.Nt
open Go.Pz
open Go.Mz
open Go.Hn
open Go.Hp
open Go.Dt
open Go.Ch
theorem isZ_eq2 {z : Int} {p : Bool × List Nat} (h : p = nz z) : isZ z = Flat (zc p) := by subst h; rfl
def adjG (N : Nat) (L : List Int) (i k : Nat) : Int := sg (i + k) * det (N - 1) fun p q => mf N L (skip k p) (skip i q)
theorem adjL_eq (N : Nat) (L : List Int) : adjL N L = tab (N * N) N (adjG N L) := by
  cases N with
  | zero => rfl
  | succ n =>
    show tab ((n + 1) * (n + 1)) (n + 1) (fun i k => sg (i + k) * det n (mf n (minL n L k i))) = _
    refine congrArg (tab ((n + 1) * (n + 1)) (n + 1)) ?_
    funext i k
    unfold adjG
    congr 1
    refine det_congr fun p q hp hq => ?_
    show cf _ (p * n + q) = _
    unfold minL
    rw [cf_tab' _ hq (place_lt hp hq)]
theorem wo_det {N i k : Nat} {xs : List (Bool × List Nat)} (h0 : 0 < N) : det (N - 1) (mf (N - 1) (vals (wo N N k i xs))) = det (N - 1) fun p q => mf N (vals xs) (skip k p) (skip i q) := det_congr fun p q hp hq => by
  show cf (vals (wo N N k i xs)) (p * (N - 1) + q) = _
  unfold wo
  rw [tabR_vals, cf_tab' _ hq (place_lt hp hq)]
  unfold woG
  rw [← cf_vals]; rfl
set_option maxHeartbeats 4000000 in
theorem bareiss_Without {R C K i k : Nat} {xs : List (Bool × List Nat)} (hx : Bd (vals xs) K) (hK : K ≤ 400000000) (hR : R ≤ 64) (hC : C ≤ 64) (hl : xs.length = R * C) (hi : i < R) (hk : k < C) : Ctr Try.prog 80 [isM (R : Int) (C : Int) xs, isI (i : Int), isI (k : Int)] (isTup [isM ((R : Int) - 1) ((C : Int) - 1) (wo R C i k ((vals xs).map nz)), isI 0]) := by
  refine Ctr.intro Try.func80 rfl (by kernel_rfl) Try.ntmps80 rfl fun w0 F0 => ?_
  refine Tri.cv (Cv.wk (.cons (t := 0) (Has.t rfl) (.cons (t := 1) (Has.t rfl) (.cons (t := 2) (Has.t rfl) .nil)))) ?_
  refine Tri.fact (Has.rngI (Has.t (t := 1) rfl)) fun lt1 => ?_
  refine Tri.fact (Has.rngI (Has.t (t := 2) rfl)) fun lt2 => ?_
  have hRC := side_le hR hC
  have hfo := formB_true hR hC hl
  have hRC1 := side_le (R := R - 1) (C := C - 1) (by omega) (by omega)
  refine Tri.seq fun K1 hK1 => ?_
  refine Tri.region ?_
  refine Ops.box (Has.t rfl) rfl fun b1 => ?_
  refine Ops.alloc [isI 0, isI 0, nilS] zero24 (fun _ _ => ⟨⟨rfl, by decide, by decide⟩, ⟨rfl, by decide, by decide⟩, rfl, trivial⟩) rfl fun b2 => ?_
  refine st (OK1.as (Has.cI 0 rfl)) rfl ?_
  refine nl ?_
  refine At.thn (hK1 _ _ ?_); clear hK1
  refine Tri.seq fun K2 hK2 => ?_
  refine Tri.block ?_
  refine Tri.seq fun K3 hK3 => ?_
  refine Tri.region ?_
  refine st (OK1.load (Has.t rfl) (i := 1) rfl ty24 rfl (Ss' := [_, _, _]) rfl) rfl ?_
  refine st (OK1.eq (OK1.call (zmat_Formed) (.cons (Has.t rfl) .nil)) ((show isB _ = isB true from isB_eq (hfo)))) rfl ?_
  refine st (OK1.not (Has.t rfl)) rfl ?_
  refine st (OK1.as (Has.t rfl)) rfl ?_
  refine nl ?_
  refine At.thn (hK3 _ _ ?_); clear hK3
  refine Tri.cond (Has.t rfl) (fun hc1 => ?_) (fun hc1 => ?_)
  · have hc1 := BP.t hc1
    exfalso; simp at hc1
  · have hc1 := BP.f hc1
    refine Tri.seq fun K4 hK4 => ?_
    refine Tri.region ?_
    refine st (OK1.mv (Has.t rfl)) rfl ?_
    refine st (OK1.ltI (Has.t rfl) (Has.cI 0 rfl)) rfl ?_
    refine st (OK1.mv (Has.t rfl)) rfl ?_
    refine stF rfl rfl (fun hg => have hg' := BP.t hg; OK1.mv (Has.t rfl)) rfl ?_
    refine stF rfl rfl (fun hg => have hg' := BP.t hg; OK1.fieldAddr (Has.t rfl) fld24_0 ty3) rfl ?_
    refine stF rfl rfl (fun hg => have hg' := BP.t hg; OK1.load1 (Has.g rfl hg) (i := 1) rfl ty3 rfl) rfl ?_
    refine stF rfl rfl (fun hg => have hg' := BP.t hg; OK1.geI (Has.g rfl hg) (Has.g rfl hg)) rfl ?_
    refine st (OK1.pickOr (Has.t rfl) (fun h => Has.g rfl (ng h))) rfl ?_
    refine st (OK1.mv (Has.t rfl)) rfl ?_
    refine stF rfl rfl (fun hg => have hg' := BP.t hg; OK1.mv (Has.t rfl)) rfl ?_
    refine stF rfl rfl (fun hg => have hg' := BP.t hg; OK1.ltI (Has.g rfl hg) (Has.cI 0 rfl)) rfl ?_
    refine st (OK1.pickOr (Has.t rfl) (fun h => Has.g rfl (ng h))) rfl ?_
    refine st (OK1.mv (Has.t rfl)) rfl ?_
    refine stF rfl rfl (fun hg => have hg' := BP.t hg; OK1.mv (Has.t rfl)) rfl ?_
    refine stF rfl rfl (fun hg => have hg' := BP.t hg; OK1.fieldAddr (Has.t rfl) fld24_1 ty3) rfl ?_
    refine stF rfl rfl (fun hg => have hg' := BP.t hg; OK1.load1 (Has.g rfl hg) (i := 1) rfl ty3 rfl) rfl ?_
    refine stF rfl rfl (fun hg => have hg' := BP.t hg; OK1.geI (Has.g rfl hg) (Has.g rfl hg)) rfl ?_
    refine st (OK1.pickOr (Has.t rfl) (fun h => Has.g rfl (ng h))) rfl ?_
    refine st (OK1.as (Has.t rfl)) rfl ?_
    refine nl ?_
    refine At.thn (hK4 _ _ ?_); clear hK4
    refine Tri.cv (Cv.wk (.cons (t := 1) (Has.t rfl) (.cons (t := 2) (Has.t rfl) (.cons (t := 3) (Has.t rfl) (.cons (t := 6) (Has.t rfl) (.cons (t := 7) (Has.t rfl) (.cons (t := 16) (Has.t rfl) .nil))))))) ?_
    refine Tri.cond (Has.t rfl) (fun hc2 => ?_) (fun hc2 => ?_)
    · have hc2 := BP.t hc2
      exfalso; omega
    · have hc2 := BP.f hc2
      refine Tri.skip ?_
      refine At.bln ?_
      refine At.thn (hK2 _ _ ?_); clear hK2
      refine Tri.seq fun K5 hK5 => ?_
      refine Tri.region ?_
      refine st (OK1.fieldAddr (Has.t rfl) fld24_0 ty3) rfl ?_
      refine st (OK1.load1 (Has.t rfl) (i := 1) rfl ty3 rfl) rfl ?_
      refine st (OK1.subI (Has.t rfl) (Has.cI 1 rfl) (by first | omega | assumption) (by first | omega | assumption)) rfl ?_
      refine st (OK1.fieldAddr (Has.t rfl) fld24_1 ty3) rfl ?_
      refine st (OK1.load1 (Has.t rfl) (i := 1) rfl ty3 rfl) rfl ?_
      refine st (OK1.subI (Has.t rfl) (Has.cI 1 rfl) (by first | omega | assumption) (by first | omega | assumption)) rfl ?_
      refine st (OK1.build [isI 0, isI 0, nilS] pl24 zero24 (fun _ _ => ⟨⟨rfl, by decide, by decide⟩, ⟨rfl, by decide, by decide⟩, rfl, trivial⟩) (.cons (Has.t rfl) rfl rfl rfl (.cons (Has.t rfl) rfl rfl rfl .nil)) (Z'' := [_, _, _]) rfl) rfl ?_
      refine Ops.alloc [isI 0, isI 0, nilS] zero24 (fun _ _ => ⟨⟨rfl, by decide, by decide⟩, ⟨rfl, by decide, by decide⟩, rfl, trivial⟩) rfl fun b3 => ?_
      refine Ops.store (Has.t rfl) (Has.t rfl) (i := 0) rfl ty24 rfl rfl (Ss' := [_, _, _]) rfl (M' := [(some _, cellM [_, _, _]), _, _]) rfl ?_
      refine nl ?_
      refine At.thn (hK5 _ _ ?_); clear hK5
      refine Tri.cv (Cv.wk (.cons (t := 1) (Has.t rfl) (.cons (t := 2) (Has.t rfl) (.cons (t := 3) (Has.t rfl) (.cons (t := 6) (Has.t rfl) (.cons (t := 7) (Has.t rfl) (.cons (t := 8) (Has.t rfl) .nil))))))) ?_
      refine Tri.seq fun K6 hK6 => ?_
      refine Tri.seq fun K7 hK7 => ?_
      refine Tri.cv (Cv.growF (Bool × List Nat) (i := 0) (o := 2) rfl rfl rfl) ?_
      refine Tri.memEq (M' := [grMK zc Gr.nil [], _, _, _]) rfl ?_
      refine Tri.region ?_
      refine st (OK1.fieldAddr (Has.t rfl) fld24_0 ty3) rfl ?_
      refine st (OK1.load1 (Has.t rfl) (i := 3) rfl ty3 rfl) rfl ?_
      refine st (OK1.mv (Has.cI 0 rfl)) rfl ?_
      refine nl ?_
      refine At.thn (hK7 _ _ ?_); clear hK7
      refine Tri.block ?_
      refine Tri.loopF [1, 2, 3, 6, 7, 8, 44] (fun (z : { z : Nat × Gr (Bool × List Nat) // z.1 ≤ R }) => match z with | ⟨(r, g), hI⟩ => [(45, isI (r : Int))]) (fun M => fun (z : { z : Nat × Gr (Bool × List Nat) // z.1 ≤ R }) => match z with | ⟨(r, g), hI⟩ => [grMK zc g (tabR (woN C i k r 0) (C - 1) (woG C i k ((vals xs).map nz))), (some b3, cellM [isI ((R : Int) - 1), isI ((C : Int) - 1), isGr g (tabR (woN C i k r 0) (C - 1) (woG C i k ((vals xs).map nz))).length]), (some b2, cellM [isI 0, isI 0, nilS]), (some b1, cellM [isI (R : Int), isI (C : Int), SlK 2 zc xs])]) (fun (z : { z : Nat × Gr (Bool × List Nat) // z.1 ≤ R }) => match z with | ⟨(r, g), hI⟩ => R - r) (⟨(0, Gr.nil), Nat.zero_le _⟩) (Cv.mem (.cons (t := 45) (Has.t' rfl ?_) (.cons (t := 1) (Has.t rfl) (.cons (t := 2) (Has.t rfl) (.cons (t := 3) (Has.t rfl) (.cons (t := 6) (Has.t rfl) (.cons (t := 7) (Has.t rfl) (.cons (t := 8) (Has.t rfl) (.cons (t := 44) (Has.t rfl) .nil)))))))) ?_) ?_
      · rfl
      · exact grR_eq (n := 0) (ys := []) (by rw [tabR_len, woN_zero]) (show [] = tabR (woN C i k 0 0) _ _ by rw [woN_zero]; rfl)
      rintro ⟨⟨r, g⟩, hI⟩ K8 hK8
      refine Tri.cv (Cv.wk (.cons (t := 45) (Has.t rfl) (.cons (t := 1) (Has.t rfl) (.cons (t := 2) (Has.t rfl) (.cons (t := 3) (Has.t rfl) (.cons (t := 6) (Has.t rfl) (.cons (t := 7) (Has.t rfl) (.cons (t := 8) (Has.t rfl) (.cons (t := 44) (Has.t rfl) .nil))))))))) ?_
      refine Tri.memEq (M' := [grMK zc g (tabR (woN C i k r 0) (C - 1) (woG C i k ((vals xs).map nz))), (some b3, cellM [isI ((R : Int) - 1), isI ((C : Int) - 1), isGr g (tabR (woN C i k r 0) (C - 1) (woG C i k ((vals xs).map nz))).length]), (some b2, cellM [isI 0, isI 0, nilS]), (some b1, cellM [isI (R : Int), isI (C : Int), SlK 2 zc xs])]) rfl ?_
      simp only [] at hI
      refine Tri.seq fun K9 hK9 => ?_
      refine Tri.region ?_
      refine st (OK1.ltI (Has.t rfl) (Has.t rfl)) rfl ?_
      refine nl ?_
      refine At.thn (hK9 _ _ ?_); clear hK9
      refine Tri.seq fun K10 hK10 => ?_
      refine Tri.cond (Has.t rfl) (fun hc3 => ?_) (fun hc3 => ?_)
      · have hc3 := BP.t hc3
        refine Tri.skip ?_
        refine At.thn (hK10 _ _ ?_); clear hK10
        refine Tri.seq fun K11 hK11 => ?_
        refine Tri.block ?_
        refine Tri.seq fun K12 hK12 => ?_
        refine Tri.region ?_
        refine st (OK1.mv (Has.t rfl)) rfl ?_
        refine st (OK1.as (Has.t rfl)) rfl ?_
        refine nl ?_
        refine At.thn (hK12 _ _ ?_); clear hK12
        refine Tri.seq fun K13 hK13 => ?_
        refine Tri.region ?_
        refine st (OK1.fieldAddr (Has.t rfl) fld24_1 ty3) rfl ?_
        refine st (OK1.load1 (Has.t rfl) (i := 3) rfl ty3 rfl) rfl ?_
        refine st (OK1.mv (Has.cI 0 rfl)) rfl ?_
        refine nl ?_
        refine At.thn (hK13 _ _ ?_); clear hK13
        refine Tri.block ?_
        refine Tri.loopF [1, 2, 3, 6, 7, 8, 44, 45, 46, 47, 9, 48, 49] (fun (z : { z : Nat × Gr (Bool × List Nat) // z.1 ≤ C }) => match z with | ⟨(c, g2), hK2⟩ => [(50, isI (c : Int))]) (fun M => fun (z : { z : Nat × Gr (Bool × List Nat) // z.1 ≤ C }) => match z with | ⟨(c, g2), hK2⟩ => [grMK zc g2 (tabR (woN C i k r c) (C - 1) (woG C i k ((vals xs).map nz))), (some b3, cellM [isI ((R : Int) - 1), isI ((C : Int) - 1), isGr g2 (tabR (woN C i k r c) (C - 1) (woG C i k ((vals xs).map nz))).length]), (some b2, cellM [isI 0, isI 0, nilS]), (some b1, cellM [isI (R : Int), isI (C : Int), SlK 2 zc xs])]) (fun (z : { z : Nat × Gr (Bool × List Nat) // z.1 ≤ C }) => match z with | ⟨(c, g2), hK2⟩ => C - c) (⟨(0, g), Nat.zero_le _⟩) (Cv.mem (.cons (t := 50) (Has.t' rfl ?_) (.cons (t := 1) (Has.t rfl) (.cons (t := 2) (Has.t rfl) (.cons (t := 3) (Has.t rfl) (.cons (t := 6) (Has.t rfl) (.cons (t := 7) (Has.t rfl) (.cons (t := 8) (Has.t rfl) (.cons (t := 44) (Has.t rfl) (.cons (t := 45) (Has.t rfl) (.cons (t := 46) (Has.t rfl) (.cons (t := 47) (Has.t rfl) (.cons (t := 9) (Has.t rfl) (.cons (t := 48) (Has.t rfl) (.cons (t := 49) (Has.t rfl) .nil)))))))))))))) ?_) ?_
        · rfl
        · rfl
        rintro ⟨⟨c, g2⟩, hK2⟩ K14 hK14
        refine Tri.cv (Cv.wk (.cons (t := 50) (Has.t rfl) (.cons (t := 1) (Has.t rfl) (.cons (t := 2) (Has.t rfl) (.cons (t := 3) (Has.t rfl) (.cons (t := 6) (Has.t rfl) (.cons (t := 7) (Has.t rfl) (.cons (t := 8) (Has.t rfl) (.cons (t := 44) (Has.t rfl) (.cons (t := 45) (Has.t rfl) (.cons (t := 46) (Has.t rfl) (.cons (t := 47) (Has.t rfl) (.cons (t := 9) (Has.t rfl) (.cons (t := 48) (Has.t rfl) (.cons (t := 49) (Has.t rfl) .nil))))))))))))))) ?_
        refine Tri.memEq (M' := [grMK zc g2 (tabR (woN C i k r c) (C - 1) (woG C i k ((vals xs).map nz))), (some b3, cellM [isI ((R : Int) - 1), isI ((C : Int) - 1), isGr g2 (tabR (woN C i k r c) (C - 1) (woG C i k ((vals xs).map nz))).length]), (some b2, cellM [isI 0, isI 0, nilS]), (some b1, cellM [isI (R : Int), isI (C : Int), SlK 2 zc xs])]) rfl ?_
        simp only [] at hK2
        refine Tri.seq fun K15 hK15 => ?_
        refine Tri.region ?_
        refine st (OK1.ltI (Has.t rfl) (Has.t rfl)) rfl ?_
        refine nl ?_
        refine At.thn (hK15 _ _ ?_); clear hK15
        refine Tri.seq fun K16 hK16 => ?_
        refine Tri.cond (Has.t rfl) (fun hc4 => ?_) (fun hc4 => ?_)
        · have hc4 := BP.t hc4
          refine Tri.skip ?_
          refine At.thn (hK16 _ _ ?_); clear hK16
          refine Tri.seq fun K17 hK17 => ?_
          refine Tri.block ?_
          refine Tri.seq fun K18 hK18 => ?_
          refine Tri.region ?_
          refine st (OK1.mv (Has.t rfl)) rfl ?_
          refine st (OK1.as (Has.t rfl)) rfl ?_
          refine nl ?_
          refine At.thn (hK18 _ _ ?_); clear hK18
          refine Tri.seq fun K19 hK19 => ?_
          refine Tri.region ?_
          refine st (OK1.mv (Has.t rfl)) rfl ?_
          refine st (OK1.mv (Has.t rfl)) rfl ?_
          refine st (OK1.neI (Has.t rfl) (Has.t rfl)) rfl ?_
          refine st (OK1.mv (Has.t rfl)) rfl ?_
          refine stT rfl rfl (fun hg => have hg' := BP.t hg; OK1.mv (Has.t rfl)) rfl ?_
          refine stT rfl rfl (fun hg => have hg' := BP.t hg; OK1.mv (Has.t rfl)) rfl ?_
          refine stT rfl rfl (fun hg => have hg' := BP.t hg; OK1.neI (Has.g rfl hg) (Has.g rfl hg)) rfl ?_
          refine st (OK1.pickAnd (Has.t rfl) (fun h => Has.g rfl h)) rfl ?_
          refine nl ?_
          refine At.thn (hK19 _ _ ?_); clear hK19
          refine Tri.cond (Has.t rfl) (fun hc5 => ?_) (fun hc5 => ?_)
          · have hc5 := BP.t hc5
            have hrc := hc5
            have hr : r ≠ i := (by omega)
            have hc : c ≠ k := (by omega)
            have hpl := place_lt (show r < R by omega) (show c < C by omega)
            have hwl := woN_le (R := R) (c := c + 1) hi hk (show r < R by omega) (show c + 1 ≤ C by omega)
            have hwn := woN_on (C := C) hr hc
            refine Tri.dry mixed ?_
            refine DrB.take (i := 0) rfl rfl rfl rfl (by kernel_rfl) (by kernel_rfl) (by kernel_rfl) (by kernel_rfl) (fun _ _ _ _ h => h) (OKY.fieldAddr (Has.t rfl) fld24_2 ty22) ?_
            refine DrB.take (i := 3) rfl rfl rfl rfl (by kernel_rfl) (by kernel_rfl) (by kernel_rfl) (by kernel_rfl) (fun _ _ _ _ h => h) (OKY.mv (Has.t rfl)) ?_
            refine DrB.take (i := 4) rfl rfl rfl rfl (by kernel_rfl) (by kernel_rfl) (by kernel_rfl) (by kernel_rfl) (fun _ _ _ _ h => h) (OKY.mv (Has.t rfl)) ?_
            refine DrB.go [] ?_
            refine DrC.st (i := 1) [] rfl rfl rfl (by kernel_rfl) (by kernel_rfl) (OKG.o rfl (OK1.load1 (Has.t rfl) (i := 1) rfl ty22 rfl)) ?_
            refine DrC.st (i := 2) [] rfl rfl rfl (by kernel_rfl) (by kernel_rfl) (OKG.o rfl (OK1.load (Has.t rfl) (i := 3) rfl ty24 rfl (Ss' := [_, _, _]) rfl)) ?_
            refine DrC.st (i := 5) [63] rfl rfl rfl (by kernel_rfl) (by kernel_rfl) (OKG.o rfl (OK1.eq (OK1.call (zmat_At (i := r) (k := c) hx (by omega) hR hC hl (by omega) (by omega)) (.cons (Has.t rfl) (.cons (Has.t rfl) (.cons (Has.t rfl) .nil)))) ((show _ = Flat (zc (((vals xs).map nz).getD (r * C + c) (false, []))) from isZ_eq2 (by rw [getD_nz]))))) ?_
            refine DrC.st (i := 6) [66] rfl rfl rfl (by kernel_rfl) (by kernel_rfl) (OKG.o rfl (OK1.buildS [isB false, SlM isU []] sl22 ty44 zero44 (fun _ _ => ⟨rfl, nilM _ _, trivial⟩) rfl rfl (.cons (Has.t rfl) rfl rfl rfl .nil) rfl (S := SlK 2 zc [((vals xs).map nz).getD (r * C + c) (false, [])]) rfl)) ?_
            refine DrC.fin [7, 8, 9] (by kernel_rfl) (by kernel_rfl) (fun _ _ _ _ _ h => h) (by kernel_rfl) (by kernel_rfl) (by kernel_rfl) (by kernel_rfl) (by kernel_rfl) (by kernel_rfl) (by kernel_rfl) (by kernel_rfl) (by kernel_rfl) ?_
            refine Ops.cv (Cv.wk (.cons (t := 1) (Has.t rfl) (.cons (t := 2) (Has.t rfl) (.cons (t := 3) (Has.t rfl) (.cons (t := 6) (Has.t rfl) (.cons (t := 7) (Has.t rfl) (.cons (t := 8) (Has.t rfl) (.cons (t := 44) (Has.t rfl) (.cons (t := 45) (Has.t rfl) (.cons (t := 46) (Has.t rfl) (.cons (t := 47) (Has.t rfl) (.cons (t := 9) (Has.t rfl) (.cons (t := 48) (Has.t rfl) (.cons (t := 49) (Has.t rfl) (.cons (t := 50) (Has.t rfl) (.cons (t := 51) (Has.t rfl) (.cons (t := 52) (Has.t rfl) (.cons (t := 10) (Has.t rfl) (.cons (t := 53) (Has.t rfl) (.cons (t := 54) (Has.t rfl) (.cons (t := 55) (Has.t rfl) (.cons (t := 56) (Has.t rfl) (.cons (t := 57) (Has.t rfl) (.cons (t := 58) (Has.t rfl) (.cons (t := 59) (Has.t rfl) (.cons (t := 60) (Has.t rfl) (.cons (t := 61) (Has.t rfl) (.cons (t := 64) (Has.t rfl) (.cons (t := 65) (Has.t rfl) (.cons (t := 62) (Has.t rfl) (.cons (t := 63) (Has.t rfl) (.cons (t := 66) (Has.t rfl) (.cons (t := 67) (Has.t rfl) .nil))))))))))))))))))))))))))))))))) ?_
            refine Ops.appendGK (fk := zc) (u := (false, [])) zc_len (by decide) (fun _ => inferInstance) sl22 ty44 zero44 (fun _ _ => ⟨rfl, nilM _ _, trivial⟩) by44 (Has.t rfl) (i := 0) rfl (Has.t rfl) (by rw [tabR_len, List.length_singleton]; omega) (by simp) rfl fun gr1 => ?_
            refine Ops.memEq (M' := [grMK _ _ _, _, _, _]) rfl ?_
            refine st (OK1.fieldAddr (Has.t rfl) fld24_2 ty22) rfl ?_
            refine Ops.store (Has.t rfl) (Has.t rfl) (i := 1) rfl ty22 rfl rfl (Ss' := [_, _, _]) rfl (M' := [_, (some _, cellM [_, _, _]), _, _]) rfl ?_
            refine nl ?_
            refine At.bln ?_
            refine At.thn (hK17 _ _ ?_); clear hK17
            refine Tri.region ?_
            refine st (OK1.addI (Has.t rfl) (Has.cI 1 rfl) (by first | omega | assumption) (by first | omega | assumption)) rfl ?_
            refine st (OK1.mv (Has.t rfl)) rfl ?_
            refine nl ?_
            refine At.thn ?_
            refine hK14 (⟨(c + 1, by first | exact gr1 | exact g2), by show c + 1 ≤ C; omega⟩) _ _ ?_ (Cv.mem (.cons (t := 50) (Has.t' rfl ?_) (.cons (t := 1) (Has.t rfl) (.cons (t := 2) (Has.t rfl) (.cons (t := 3) (Has.t rfl) (.cons (t := 6) (Has.t rfl) (.cons (t := 7) (Has.t rfl) (.cons (t := 8) (Has.t rfl) (.cons (t := 44) (Has.t rfl) (.cons (t := 45) (Has.t rfl) (.cons (t := 46) (Has.t rfl) (.cons (t := 47) (Has.t rfl) (.cons (t := 9) (Has.t rfl) (.cons (t := 48) (Has.t rfl) (.cons (t := 49) (Has.t rfl) .nil)))))))))))))) ?_)
            · show C - (c + 1) < C - c; omega
            · exact isI_eq (by omega)
            · first | exact grR_eq (by rw [tabR_len, tabR_len, hwn]; rfl) (by rw [← wo_app hr hc (by omega) hk]) | exact grR_eq (by rw [woN_off hno]) (by rw [woN_off hno])
          · have hc5 := BP.f hc5
            have hno : ¬ (r ≠ i ∧ c ≠ k) := (by omega)
            refine Tri.skip ?_
            refine At.bln ?_
            refine At.thn (hK17 _ _ ?_); clear hK17
            refine Tri.region ?_
            refine st (OK1.addI (Has.t rfl) (Has.cI 1 rfl) (by first | omega | assumption) (by first | omega | assumption)) rfl ?_
            refine st (OK1.mv (Has.t rfl)) rfl ?_
            refine nl ?_
            refine At.thn ?_
            refine hK14 (⟨(c + 1, by first | exact gr1 | exact g2), by show c + 1 ≤ C; omega⟩) _ _ ?_ (Cv.mem (.cons (t := 50) (Has.t' rfl ?_) (.cons (t := 1) (Has.t rfl) (.cons (t := 2) (Has.t rfl) (.cons (t := 3) (Has.t rfl) (.cons (t := 6) (Has.t rfl) (.cons (t := 7) (Has.t rfl) (.cons (t := 8) (Has.t rfl) (.cons (t := 44) (Has.t rfl) (.cons (t := 45) (Has.t rfl) (.cons (t := 46) (Has.t rfl) (.cons (t := 47) (Has.t rfl) (.cons (t := 9) (Has.t rfl) (.cons (t := 48) (Has.t rfl) (.cons (t := 49) (Has.t rfl) .nil)))))))))))))) ?_)
            · show C - (c + 1) < C - c; omega
            · exact isI_eq (by omega)
            · first | exact grR_eq (by rw [tabR_len, tabR_len, hwn]; rfl) (by rw [← wo_app hr hc (by omega) hk]) | exact grR_eq (by rw [woN_off hno]) (by rw [woN_off hno])
        · have hc4 := BP.f hc4
          refine Tri.exit ?_
          refine At.the ?_
          refine At.the ?_
          refine At.blh ?_
          refine At.bln ?_
          refine At.thn (hK11 _ _ ?_); clear hK11
          refine Tri.region ?_
          refine st (OK1.addI (Has.t rfl) (Has.cI 1 rfl) (by first | omega | assumption) (by first | omega | assumption)) rfl ?_
          refine st (OK1.mv (Has.t rfl)) rfl ?_
          refine nl ?_
          refine At.thn ?_
          have hkC : c = C := by omega
          subst hkC
          refine hK8 (⟨(r + 1, g2), by show r + 1 ≤ R; omega⟩) _ _ ?_ (Cv.mem (.cons (t := 45) (Has.t' rfl ?_) (.cons (t := 1) (Has.t rfl) (.cons (t := 2) (Has.t rfl) (.cons (t := 3) (Has.t rfl) (.cons (t := 6) (Has.t rfl) (.cons (t := 7) (Has.t rfl) (.cons (t := 8) (Has.t rfl) (.cons (t := 44) (Has.t rfl) .nil)))))))) ?_)
          · show R - (r + 1) < R - r; omega
          · exact isI_eq (by omega)
          · exact grR_eq (by rw [woN_next hk]) (by rw [woN_next hk])
      · have hc3 := BP.f hc3
        refine Tri.exit ?_
        refine At.the ?_
        refine At.the ?_
        refine At.blh ?_
        refine At.thn (hK6 _ _ ?_); clear hK6
        refine Tri.cv (Cv.wk (.cons (t := 6) (Has.t rfl) (.cons (t := 7) (Has.t rfl) (.cons (t := 8) (Has.t rfl) .nil)))) ?_
        refine Tri.seq fun K20 hK20 => ?_
        refine Tri.cv (Cv.freezeF (k := 2) (i := 0) (j := 0) (o := 2) rfl rfl rfl rfl (gr_lenK zc_len) (gr_takeK zc_len) (Ss' := [_, _, SlK 2 zc (tabR (woN C i k r 0) (C - 1) (woG C i k ((vals xs).map nz)))]) rfl) ?_
        refine Tri.memEq (M' := [(some _, cellM [_, _, SlK 2 zc (tabR (woN C i k r 0) (C - 1) (woG C i k ((vals xs).map nz)))]), _, _]) rfl ?_
        refine Tri.cv (Cv.wk (.cons (t := 6) (Has.t rfl) (.cons (t := 7) (Has.t rfl) (.cons (t := 8) (Has.t rfl) .nil)))) ?_
        refine Tri.region ?_
        refine st (OK1.load (Has.t rfl) (i := 0) rfl ty24 rfl (Ss' := [_, _, _]) rfl) rfl ?_
        refine Ops.store (Has.t rfl) (Has.t rfl) (i := 1) rfl ty24 rfl rfl (Ss' := [_, _, _]) rfl (M' := [_, (some _, cellM [_, _, _]), _]) rfl ?_
        refine st (OK1.as (Has.cI 0 rfl)) rfl ?_
        refine nl ?_
        refine At.thn (hK20 _ _ ?_); clear hK20
        refine Tri.ret ?_
        refine rtN (.inl rfl) Try.results80 rfl rfl (.cell rfl (i := 1) rfl ty24 rfl ?_ (.tmp (Has.t' rfl ?_) .nil))
        · rw [show r = R by omega, woN_all hi]; rfl
        · rfl
set_option maxHeartbeats 4000000 in
theorem bareiss_Adjugate {n K : Nat} {xs : List (Bool × List Nat)} (hx : Bd (vals xs) K) (hK1 : 1 ≤ K) (hK : K ≤ 100) (hn : n ≤ 9) (hl : xs.length = n * n) : Ctr Try.prog 30 [isM (n : Int) (n : Int) xs] (isTup [isMz n n (adjL n (vals xs)), isI 0]) := by
  refine Ctr.intro Try.func30 rfl (by kernel_rfl) Try.ntmps30 rfl fun w0 F0 => ?_
  refine Tri.cv (Cv.wk (.cons (t := 0) (Has.t rfl) .nil)) ?_
  have hRC := side_le (show n ≤ 64 by omega) (show n ≤ 64 by omega)
  have hfo := formB_true (show n ≤ 64 by omega) (show n ≤ 64 by omega) hl
  refine Tri.seq fun K1 hK1 => ?_
  refine Tri.region ?_
  refine Ops.box (Has.t rfl) rfl fun b1 => ?_
  refine Ops.alloc [isI 0, isI 0, nilS] zero24 (fun _ _ => ⟨⟨rfl, by decide, by decide⟩, ⟨rfl, by decide, by decide⟩, rfl, trivial⟩) rfl fun b2 => ?_
  refine st (OK1.as (Has.cI 0 rfl)) rfl ?_
  refine nl ?_
  refine At.thn (hK1 _ _ ?_); clear hK1
  refine Tri.seq fun K2 hK2 => ?_
  refine Tri.seq fun K3 hK3 => ?_
  refine Tri.region ?_
  refine st (OK1.load (Has.t rfl) (i := 1) rfl ty24 rfl (Ss' := [_, _, _]) rfl) rfl ?_
  refine st (OK1.eq (OK1.call (zmat_Formed) (.cons (Has.t rfl) .nil)) ((show isB _ = isB true from isB_eq (hfo)))) rfl ?_
  refine st (OK1.not (Has.t rfl)) rfl ?_
  refine st (OK1.mv (Has.t rfl)) rfl ?_
  refine stF rfl rfl (fun hg => have hg' := BP.t hg; OK1.fieldAddr (Has.t rfl) fld24_0 ty3) rfl ?_
  refine stF rfl rfl (fun hg => have hg' := BP.t hg; OK1.load1 (Has.g rfl hg) (i := 1) rfl ty3 rfl) rfl ?_
  refine stF rfl rfl (fun hg => have hg' := BP.t hg; OK1.fieldAddr (Has.t rfl) fld24_1 ty3) rfl ?_
  refine stF rfl rfl (fun hg => have hg' := BP.t hg; OK1.load1 (Has.g rfl hg) (i := 1) rfl ty3 rfl) rfl ?_
  refine stF rfl rfl (fun hg => have hg' := BP.t hg; OK1.neI (Has.g rfl hg) (Has.g rfl hg)) rfl ?_
  refine st (OK1.pickOr (Has.t rfl) (fun h => Has.g rfl (ng h))) rfl ?_
  refine nl ?_
  refine At.thn (hK3 _ _ ?_); clear hK3
  refine Tri.cv (Cv.wk (.cons (t := 1) (Has.t rfl) (.cons (t := 2) (Has.t rfl) (.cons (t := 3) (Has.t rfl) (.cons (t := 20) (Has.t rfl) .nil))))) ?_
  refine Tri.cond (Has.t rfl) (fun hc1 => ?_) (fun hc1 => ?_)
  · have hc1 := BP.t hc1
    exfalso; simp at hc1
  · have hc1 := BP.f hc1
    refine Tri.skip ?_
    refine At.thn (hK2 _ _ ?_); clear hK2
    refine Tri.seq fun K4 hK4 => ?_
    refine Tri.region ?_
    refine st (OK1.fieldAddr (Has.t rfl) fld24_0 ty3) rfl ?_
    refine st (OK1.load1 (Has.t rfl) (i := 1) rfl ty3 rfl) rfl ?_
    refine st (OK1.fieldAddr (Has.t rfl) fld24_0 ty3) rfl ?_
    refine st (OK1.load1 (Has.t rfl) (i := 1) rfl ty3 rfl) rfl ?_
    refine st (OK1.build [isI 0, isI 0, nilS] pl24 zero24 (fun _ _ => ⟨⟨rfl, by decide, by decide⟩, ⟨rfl, by decide, by decide⟩, rfl, trivial⟩) (.cons (Has.t rfl) rfl rfl rfl (.cons (Has.t rfl) rfl rfl rfl .nil)) (Z'' := [_, _, _]) rfl) rfl ?_
    refine Ops.alloc [isI 0, isI 0, nilS] zero24 (fun _ _ => ⟨⟨rfl, by decide, by decide⟩, ⟨rfl, by decide, by decide⟩, rfl, trivial⟩) rfl fun b3 => ?_
    refine Ops.store (Has.t rfl) (Has.t rfl) (i := 0) rfl ty24 rfl rfl (Ss' := [_, _, _]) rfl (M' := [(some _, cellM [_, _, _]), _, _]) rfl ?_
    refine nl ?_
    refine At.thn (hK4 _ _ ?_); clear hK4
    refine Tri.cv (Cv.wk (.cons (t := 1) (Has.t rfl) (.cons (t := 2) (Has.t rfl) (.cons (t := 3) (Has.t rfl) (.cons (t := 4) (Has.t rfl) .nil))))) ?_
    refine Tri.seq fun K5 hK5 => ?_
    refine Tri.seq fun K6 hK6 => ?_
    refine Tri.cv (Cv.growF (Bool × List Nat) (i := 0) (o := 2) rfl rfl rfl) ?_
    refine Tri.memEq (M' := [grMK zc Gr.nil [], _, _, _]) rfl ?_
    refine Tri.region ?_
    refine st (OK1.fieldAddr (Has.t rfl) fld24_0 ty3) rfl ?_
    refine st (OK1.load1 (Has.t rfl) (i := 3) rfl ty3 rfl) rfl ?_
    refine st (OK1.mv (Has.cI 0 rfl)) rfl ?_
    refine nl ?_
    refine At.thn (hK6 _ _ ?_); clear hK6
    refine Tri.block ?_
    refine Tri.loopF [1, 2, 3, 4, 28] (fun (z : { z : Nat × Gr (Bool × List Nat) // z.1 ≤ n }) => match z with | ⟨(i, g), hI⟩ => [(29, isI (i : Int))]) (fun M => fun (z : { z : Nat × Gr (Bool × List Nat) // z.1 ≤ n }) => match z with | ⟨(i, g), hI⟩ => [grMK zc g ((tab (i * n + 0) n (adjG n (vals xs))).map nz), (some b3, cellM [isI (n : Int), isI (n : Int), isGr g ((tab (i * n + 0) n (adjG n (vals xs))).map nz).length]), (some b2, cellM [isI 0, isI 0, nilS]), (some b1, cellM [isI (n : Int), isI (n : Int), SlK 2 zc xs])]) (fun (z : { z : Nat × Gr (Bool × List Nat) // z.1 ≤ n }) => match z with | ⟨(i, g), hI⟩ => n - i) (⟨(0, Gr.nil), Nat.zero_le _⟩) (Cv.mem (.cons (t := 29) (Has.t' rfl ?_) (.cons (t := 1) (Has.t rfl) (.cons (t := 2) (Has.t rfl) (.cons (t := 3) (Has.t rfl) (.cons (t := 4) (Has.t rfl) (.cons (t := 28) (Has.t rfl) .nil)))))) ?_) ?_
    · rfl
    · exact grF_eq (show (0 : Nat) = ((tab (0 * n + 0) n (adjG n (vals xs))).map nz).length by rw [Nat.zero_mul]; rfl) (show [] = (tab (0 * n + 0) n (adjG n (vals xs))).map nz by rw [Nat.zero_mul]; rfl)
    rintro ⟨⟨i, g⟩, hI⟩ K7 hK7
    refine Tri.cv (Cv.wk (.cons (t := 29) (Has.t rfl) (.cons (t := 1) (Has.t rfl) (.cons (t := 2) (Has.t rfl) (.cons (t := 3) (Has.t rfl) (.cons (t := 4) (Has.t rfl) (.cons (t := 28) (Has.t rfl) .nil))))))) ?_
    refine Tri.memEq (M' := [grMK zc g ((tab (i * n + 0) n (adjG n (vals xs))).map nz), (some b3, cellM [isI (n : Int), isI (n : Int), isGr g ((tab (i * n + 0) n (adjG n (vals xs))).map nz).length]), (some b2, cellM [isI 0, isI 0, nilS]), (some b1, cellM [isI (n : Int), isI (n : Int), SlK 2 zc xs])]) rfl ?_
    simp only [] at hI
    refine Tri.seq fun K8 hK8 => ?_
    refine Tri.region ?_
    refine st (OK1.ltI (Has.t rfl) (Has.t rfl)) rfl ?_
    refine nl ?_
    refine At.thn (hK8 _ _ ?_); clear hK8
    refine Tri.seq fun K9 hK9 => ?_
    refine Tri.cond (Has.t rfl) (fun hc2 => ?_) (fun hc2 => ?_)
    · have hc2 := BP.t hc2
      refine Tri.skip ?_
      refine At.thn (hK9 _ _ ?_); clear hK9
      refine Tri.seq fun K10 hK10 => ?_
      refine Tri.block ?_
      refine Tri.seq fun K11 hK11 => ?_
      refine Tri.region ?_
      refine st (OK1.mv (Has.t rfl)) rfl ?_
      refine st (OK1.as (Has.t rfl)) rfl ?_
      refine nl ?_
      refine At.thn (hK11 _ _ ?_); clear hK11
      refine Tri.seq fun K12 hK12 => ?_
      refine Tri.region ?_
      refine st (OK1.fieldAddr (Has.t rfl) fld24_0 ty3) rfl ?_
      refine st (OK1.load1 (Has.t rfl) (i := 3) rfl ty3 rfl) rfl ?_
      refine st (OK1.mv (Has.cI 0 rfl)) rfl ?_
      refine nl ?_
      refine At.thn (hK12 _ _ ?_); clear hK12
      refine Tri.block ?_
      refine Tri.loopF [1, 2, 3, 4, 28, 29, 30, 31, 5, 32, 33] (fun (z : { z : Nat × Gr (Bool × List Nat) // z.1 ≤ n }) => match z with | ⟨(k, g2), hK2⟩ => [(34, isI (k : Int))]) (fun M => fun (z : { z : Nat × Gr (Bool × List Nat) // z.1 ≤ n }) => match z with | ⟨(k, g2), hK2⟩ => [grMK zc g2 ((tab (i * n + k) n (adjG n (vals xs))).map nz), (some b3, cellM [isI (n : Int), isI (n : Int), isGr g2 ((tab (i * n + k) n (adjG n (vals xs))).map nz).length]), (some b2, cellM [isI 0, isI 0, nilS]), (some b1, cellM [isI (n : Int), isI (n : Int), SlK 2 zc xs])]) (fun (z : { z : Nat × Gr (Bool × List Nat) // z.1 ≤ n }) => match z with | ⟨(k, g2), hK2⟩ => n - k) (⟨(0, g), Nat.zero_le _⟩) (Cv.mem (.cons (t := 34) (Has.t' rfl ?_) (.cons (t := 1) (Has.t rfl) (.cons (t := 2) (Has.t rfl) (.cons (t := 3) (Has.t rfl) (.cons (t := 4) (Has.t rfl) (.cons (t := 28) (Has.t rfl) (.cons (t := 29) (Has.t rfl) (.cons (t := 30) (Has.t rfl) (.cons (t := 31) (Has.t rfl) (.cons (t := 5) (Has.t rfl) (.cons (t := 32) (Has.t rfl) (.cons (t := 33) (Has.t rfl) .nil)))))))))))) ?_) ?_
      · rfl
      · rfl
      rintro ⟨⟨k, g2⟩, hK2⟩ K13 hK13
      refine Tri.cv (Cv.wk (.cons (t := 34) (Has.t rfl) (.cons (t := 1) (Has.t rfl) (.cons (t := 2) (Has.t rfl) (.cons (t := 3) (Has.t rfl) (.cons (t := 4) (Has.t rfl) (.cons (t := 28) (Has.t rfl) (.cons (t := 29) (Has.t rfl) (.cons (t := 30) (Has.t rfl) (.cons (t := 31) (Has.t rfl) (.cons (t := 5) (Has.t rfl) (.cons (t := 32) (Has.t rfl) (.cons (t := 33) (Has.t rfl) .nil))))))))))))) ?_
      refine Tri.memEq (M' := [grMK zc g2 ((tab (i * n + k) n (adjG n (vals xs))).map nz), (some b3, cellM [isI (n : Int), isI (n : Int), isGr g2 ((tab (i * n + k) n (adjG n (vals xs))).map nz).length]), (some b2, cellM [isI 0, isI 0, nilS]), (some b1, cellM [isI (n : Int), isI (n : Int), SlK 2 zc xs])]) rfl ?_
      simp only [] at hK2
      refine Tri.seq fun K14 hK14 => ?_
      refine Tri.region ?_
      refine st (OK1.ltI (Has.t rfl) (Has.t rfl)) rfl ?_
      refine nl ?_
      refine At.thn (hK14 _ _ ?_); clear hK14
      refine Tri.seq fun K15 hK15 => ?_
      refine Tri.cond (Has.t rfl) (fun hc3 => ?_) (fun hc3 => ?_)
      · have hc3 := BP.t hc3
        have hi2 : i < n := (by omega)
        have hk2 : k < n := (by omega)
        have hpl := place_lt hi2 hk2
        obtain ⟨D, hD⟩ : ∃ D, D = det (n - 1) fun p q => mf n (vals xs) (skip k p) (skip i q) := ⟨_, rfl⟩
        have hDw : (List.length (words D.natAbs)) ≤ (n - 1) * (K + (n - 1)) + 1 := by rw [hD]; exact det_nw (fun _ _ => hx _) (n - 1)
        have hDm : (n - 1) * (K + (n - 1)) ≤ 8 * 200 := Nat.mul_le_mul (by omega) (by omega)
        have hwb : Bd (vals (wo n n k i ((vals xs).map nz))) K := wo_bd (by rw [vals_nz]; exact hx)
        have hwl := wo_len n n k i ((vals xs).map nz)
        have hpw : (K + 1) * 2 ^ (n - 1) ≤ 101 * 256 := Nat.mul_le_mul (by omega) (Nat.le_trans (Nat.pow_le_pow_right (by decide) (show n - 1 ≤ 8 by omega)) (by decide))
        refine Tri.skip ?_
        refine At.thn (hK15 _ _ ?_); clear hK15
        refine Tri.seq fun K16 hK16 => ?_
        refine Tri.block ?_
        refine Tri.seq fun K17 hK17 => ?_
        refine Tri.region ?_
        refine st (OK1.mv (Has.t rfl)) rfl ?_
        refine st (OK1.as (Has.t rfl)) rfl ?_
        refine nl ?_
        refine At.thn (hK17 _ _ ?_); clear hK17
        refine Tri.seq fun K18 hK18 => ?_
        refine Tri.region ?_
        refine st (OK1.load (Has.t rfl) (i := 3) rfl ty24 rfl (Ss' := [_, _, _]) rfl) rfl ?_
        refine st (OK1.mv (Has.t rfl)) rfl ?_
        refine st (OK1.mv (Has.t rfl)) rfl ?_
        refine st (OK1.eq (OK1.call (bareiss_Without (i := k) (k := i) hx (by omega) (by omega) (by omega) hl hk2 hi2) (.cons (Has.t rfl) (.cons (Has.t rfl) (.cons (Has.t rfl) .nil)))) ((show _ = isTup [isM ((n - 1 : Nat) : Int) ((n - 1 : Nat) : Int) (wo n n k i ((vals xs).map nz)), isI 0] from by rw [show ((n : Int) - 1) = ((n - 1 : Nat) : Int) by omega]))) rfl ?_
        refine st (OK1.mv (Has.t rfl)) rfl ?_
        refine st (OK1.ext (Has.t rfl) rfl) rfl ?_
        refine st (OK1.ext (Has.t rfl) rfl) rfl ?_
        refine Ops.alloc [isI 0, isI 0, nilS] zero24 (fun _ _ => ⟨⟨rfl, by decide, by decide⟩, ⟨rfl, by decide, by decide⟩, rfl, trivial⟩) rfl fun b4 => ?_
        refine Ops.store (Has.t rfl) (Has.t rfl) (i := 0) rfl ty24 rfl rfl (Ss' := [_, _, _]) rfl (M' := [(some _, cellM [_, _, _]), _, _, _, _]) rfl ?_
        refine st (OK1.as (Has.t rfl)) rfl ?_
        refine nl ?_
        refine At.thn (hK18 _ _ ?_); clear hK18
        refine Tri.seq fun K19 hK19 => ?_
        refine Tri.region ?_
        refine st (OK1.load (Has.t rfl) (i := 0) rfl ty24 rfl (Ss' := [_, _, _]) rfl) rfl ?_
        refine st (OK1.eq (OK1.call (bareiss_Det (R := n - 1) (K := K) hwb hK1 (by omega) hwl (by omega)) (.cons (Has.t rfl) .nil)) ((show _ = isTup [isZ D, isI 0] from by rw [wo_det (by omega), vals_nz, hD]))) rfl ?_
        refine st (OK1.mv (Has.t rfl)) rfl ?_
        refine st (OK1.ext (Has.t rfl) rfl) rfl ?_
        refine st (OK1.ext (Has.t rfl) rfl) rfl ?_
        refine Ops.alloc [isB false, SlM isU []] zero44 (fun _ _ => ⟨rfl, nilM _ _, trivial⟩) rfl fun b5 => ?_
        refine Ops.store (Has.t rfl) (Has.t rfl) (i := 0) rfl ty44 rfl rfl (Ss' := [_, _]) rfl (M' := [(some _, cellM [_, _]), _, _, _, _, _]) rfl ?_
        refine st (OK1.as (Has.t rfl)) rfl ?_
        refine nl ?_
        refine At.thn (hK19 _ _ ?_); clear hK19
        refine Tri.seq fun K20 hK20 => ?_
        refine Tri.seq fun K21 hK21 => ?_
        refine Tri.region ?_
        refine st (OK1.mv (Has.t rfl)) rfl ?_
        refine st (OK1.mv (Has.t rfl)) rfl ?_
        refine st (OK1.addI (Has.t rfl) (Has.t rfl) (by first | omega | assumption) (by first | omega | assumption)) rfl ?_
        refine st (OK1.remI (Has.t rfl) (Has.cI 2 rfl) (by first | omega | assumption) (by first | omega | assumption) (by first | omega | assumption)) rfl ?_
        refine st (OK1.eqI (Has.t rfl) (Has.cI 1 rfl)) rfl ?_
        refine nl ?_
        refine At.thn (hK21 _ _ ?_); clear hK21
        refine Tri.cond (Has.t rfl) (fun hc4 => ?_) (fun hc4 => ?_)
        · have hc4 := BP.t hc4
          have hsg : sg (i + k) = -1 := if_pos (by omega)
          refine Tri.region ?_
          refine st (OK1.load (Has.t rfl) (i := 0) rfl ty44 rfl (Ss' := [_, _]) rfl) rfl ?_
          refine st (OK1.call (zint_Neg (by rw [val_words]; omega)) (.cons (Has.t rfl) .nil)) rfl ?_
          refine Ops.store (Has.t rfl) (Has.t rfl) (i := 0) rfl ty44 rfl rfl (Ss' := [_, _]) rfl (M' := [(some _, cellM [_, _]), _, _, _, _, _]) rfl ?_
          refine nl ?_
          refine At.thn (hK20 _ _ ?_); clear hK20
          refine Tri.region ?_
          refine st (OK1.fieldAddr (Has.t rfl) fld24_2 ty22) rfl ?_
          refine st (OK1.load1 (Has.t rfl) (i := 3) rfl ty22 rfl) rfl ?_
          refine st (OK1.eq (OK1.load (Has.t rfl) (i := 0) rfl ty44 rfl (Ss' := [_, _]) rfl) ((show _ = Flat (zc (nz (adjG n (vals xs) i k))) from isZ_eq (by unfold adjG; rw [← hD]; first | (rw [zv_nf, hsg]; omega) | (rw [hsg]; omega))))) rfl ?_
          refine st (OK1.buildS [isB false, SlM isU []] sl22 ty44 zero44 (fun _ _ => ⟨rfl, nilM _ _, trivial⟩) rfl rfl (.cons (Has.t rfl) rfl rfl rfl .nil) rfl (S := SlK 2 zc [nz (adjG n (vals xs) i k)]) rfl) rfl ?_
          refine Ops.appendGK (fk := zc) (u := (false, [])) zc_len (by decide) (fun _ => inferInstance) sl22 ty44 zero44 (fun _ _ => ⟨rfl, nilM _ _, trivial⟩) by44 (Has.t rfl) (i := 2) rfl (Has.t rfl) (by rw [List.length_map, tab_len]; show i * n + k + 1 ≤ _; omega) (by simp) rfl fun gr1 => ?_
          refine Ops.memEq (M' := [_, _, grMK _ _ _, _, _, _]) rfl ?_
          refine st (OK1.fieldAddr (Has.t rfl) fld24_2 ty22) rfl ?_
          refine Ops.store (Has.t rfl) (Has.t rfl) (i := 3) rfl ty22 rfl rfl (Ss' := [_, _, _]) rfl (M' := [_, _, _, (some _, cellM [_, _, _]), _, _]) rfl ?_
          refine nl ?_
          refine At.bln ?_
          refine At.thn (hK16 _ _ ?_); clear hK16
          refine Tri.region ?_
          refine st (OK1.addI (Has.t rfl) (Has.cI 1 rfl) (by first | omega | assumption) (by first | omega | assumption)) rfl ?_
          refine st (OK1.mv (Has.t rfl)) rfl ?_
          refine nl ?_
          refine At.thn ?_
          refine hK13 (⟨(k + 1, gr1), by show k + 1 ≤ n; omega⟩) _ _ ?_ (Cv.trans (Cv.drop ((.cons _ (.cons _ (.cons_cons _ (.cons_cons _ (.cons_cons _ (.cons_cons _ .slnil)))))))) (Cv.mem (.cons (t := 34) (Has.t' rfl ?_) (.cons (t := 1) (Has.t rfl) (.cons (t := 2) (Has.t rfl) (.cons (t := 3) (Has.t rfl) (.cons (t := 4) (Has.t rfl) (.cons (t := 28) (Has.t rfl) (.cons (t := 29) (Has.t rfl) (.cons (t := 30) (Has.t rfl) (.cons (t := 31) (Has.t rfl) (.cons (t := 5) (Has.t rfl) (.cons (t := 32) (Has.t rfl) (.cons (t := 33) (Has.t rfl) .nil)))))))))))) ?_))
          · show n - (k + 1) < n - k; omega
          · exact isI_eq (by omega)
          · exact grF_eq (by rw [← tab_succ _ hk2, List.map_append, List.length_append]; rfl) (by rw [← tab_succ _ hk2, List.map_append]; rfl)
        · have hc4 := BP.f hc4
          have hsg : sg (i + k) = 1 := if_neg (by omega)
          refine Tri.skip ?_
          refine At.thn (hK20 _ _ ?_); clear hK20
          refine Tri.region ?_
          refine st (OK1.fieldAddr (Has.t rfl) fld24_2 ty22) rfl ?_
          refine st (OK1.load1 (Has.t rfl) (i := 3) rfl ty22 rfl) rfl ?_
          refine st (OK1.eq (OK1.load (Has.t rfl) (i := 0) rfl ty44 rfl (Ss' := [_, _]) rfl) ((show _ = Flat (zc (nz (adjG n (vals xs) i k))) from isZ_eq (by unfold adjG; rw [← hD]; first | (rw [zv_nf, hsg]; omega) | (rw [hsg]; omega))))) rfl ?_
          refine st (OK1.buildS [isB false, SlM isU []] sl22 ty44 zero44 (fun _ _ => ⟨rfl, nilM _ _, trivial⟩) rfl rfl (.cons (Has.t rfl) rfl rfl rfl .nil) rfl (S := SlK 2 zc [nz (adjG n (vals xs) i k)]) rfl) rfl ?_
          refine Ops.appendGK (fk := zc) (u := (false, [])) zc_len (by decide) (fun _ => inferInstance) sl22 ty44 zero44 (fun _ _ => ⟨rfl, nilM _ _, trivial⟩) by44 (Has.t rfl) (i := 2) rfl (Has.t rfl) (by rw [List.length_map, tab_len]; show i * n + k + 1 ≤ _; omega) (by simp) rfl fun gr1 => ?_
          refine Ops.memEq (M' := [_, _, grMK _ _ _, _, _, _]) rfl ?_
          refine st (OK1.fieldAddr (Has.t rfl) fld24_2 ty22) rfl ?_
          refine Ops.store (Has.t rfl) (Has.t rfl) (i := 3) rfl ty22 rfl rfl (Ss' := [_, _, _]) rfl (M' := [_, _, _, (some _, cellM [_, _, _]), _, _]) rfl ?_
          refine nl ?_
          refine At.bln ?_
          refine At.thn (hK16 _ _ ?_); clear hK16
          refine Tri.region ?_
          refine st (OK1.addI (Has.t rfl) (Has.cI 1 rfl) (by first | omega | assumption) (by first | omega | assumption)) rfl ?_
          refine st (OK1.mv (Has.t rfl)) rfl ?_
          refine nl ?_
          refine At.thn ?_
          refine hK13 (⟨(k + 1, gr1), by show k + 1 ≤ n; omega⟩) _ _ ?_ (Cv.trans (Cv.drop ((.cons _ (.cons _ (.cons_cons _ (.cons_cons _ (.cons_cons _ (.cons_cons _ .slnil)))))))) (Cv.mem (.cons (t := 34) (Has.t' rfl ?_) (.cons (t := 1) (Has.t rfl) (.cons (t := 2) (Has.t rfl) (.cons (t := 3) (Has.t rfl) (.cons (t := 4) (Has.t rfl) (.cons (t := 28) (Has.t rfl) (.cons (t := 29) (Has.t rfl) (.cons (t := 30) (Has.t rfl) (.cons (t := 31) (Has.t rfl) (.cons (t := 5) (Has.t rfl) (.cons (t := 32) (Has.t rfl) (.cons (t := 33) (Has.t rfl) .nil)))))))))))) ?_))
          · show n - (k + 1) < n - k; omega
          · exact isI_eq (by omega)
          · exact grF_eq (by rw [← tab_succ _ hk2, List.map_append, List.length_append]; rfl) (by rw [← tab_succ _ hk2, List.map_append]; rfl)
      · have hc3 := BP.f hc3
        skip
        refine Tri.exit ?_
        refine At.the ?_
        refine At.the ?_
        refine At.blh ?_
        refine At.bln ?_
        refine At.thn (hK10 _ _ ?_); clear hK10
        refine Tri.region ?_
        refine st (OK1.addI (Has.t rfl) (Has.cI 1 rfl) (by first | omega | assumption) (by first | omega | assumption)) rfl ?_
        refine st (OK1.mv (Has.t rfl)) rfl ?_
        refine nl ?_
        refine At.thn ?_
        have hkD : k = n := by omega
        refine hK7 (⟨(i + 1, g2), by show i + 1 ≤ n; omega⟩) _ _ ?_ (Cv.mem (.cons (t := 29) (Has.t' rfl ?_) (.cons (t := 1) (Has.t rfl) (.cons (t := 2) (Has.t rfl) (.cons (t := 3) (Has.t rfl) (.cons (t := 4) (Has.t rfl) (.cons (t := 28) (Has.t rfl) .nil)))))) ?_)
        · show n - (i + 1) < n - i; omega
        · exact isI_eq (by omega)
        · exact grF_eq (by rw [hkD, tab_next]) (by rw [hkD, tab_next])
    · have hc2 := BP.f hc2
      refine Tri.exit ?_
      refine At.the ?_
      refine At.the ?_
      refine At.blh ?_
      refine At.thn (hK5 _ _ ?_); clear hK5
      refine Tri.seq fun K22 hK22 => ?_
      refine Tri.cv (Cv.freezeF (k := 2) (i := 0) (j := 0) (o := 2) rfl rfl rfl rfl (gr_lenK zc_len) (gr_takeK zc_len) (Ss' := [_, _, SlK 2 zc ((tab (i * n + 0) n (adjG n (vals xs))).map nz)]) rfl) ?_
      refine Tri.memEq (M' := [(some _, cellM [_, _, SlK 2 zc ((tab (i * n + 0) n (adjG n (vals xs))).map nz)]), _, _]) rfl ?_
      refine Tri.cv (Cv.wk (.cons (t := 1) (Has.t rfl) (.cons (t := 2) (Has.t rfl) (.cons (t := 3) (Has.t rfl) (.cons (t := 4) (Has.t rfl) (.cons (t := 28) (Has.t rfl) (.cons (t := 29) (Has.t rfl) (.cons (t := 30) (Has.t rfl) .nil)))))))) ?_
      refine Tri.region ?_
      refine st (OK1.load (Has.t rfl) (i := 0) rfl ty24 rfl (Ss' := [_, _, _]) rfl) rfl ?_
      refine Ops.store (Has.t rfl) (Has.t rfl) (i := 1) rfl ty24 rfl rfl (Ss' := [_, _, _]) rfl (M' := [_, (some _, cellM [_, _, _]), _]) rfl ?_
      refine st (OK1.as (Has.cI 0 rfl)) rfl ?_
      refine nl ?_
      refine At.thn (hK22 _ _ ?_); clear hK22
      refine Tri.cv (Cv.wk (.cons (t := 2) (Has.t rfl) (.cons (t := 3) (Has.t rfl) .nil))) ?_
      refine Tri.ret ?_
      refine rtN (.inl rfl) Try.results30 rfl rfl (.cell rfl (i := 1) rfl ty24 rfl ?_ (.tmp (Has.t' rfl ?_) .nil))
      · exact isMz_eq (by rw [adjL_eq, Nat.add_zero, show i = n by omega])
      · rfl
set_option maxHeartbeats 4000000 in
theorem bareiss_Adjugate_bad {r c : Int} {xs : List (Bool × List Nat)} (hf : (formB r c xs.length && decide (r = c)) = false) : Ctr Try.prog 30 [isM r c xs] (isTup [isM0, isI 2]) := by
  refine Ctr.intro Try.func30 rfl (by kernel_rfl) Try.ntmps30 rfl fun w0 F0 => ?_
  refine Tri.cv (Cv.wk (.cons (t := 0) (Has.t rfl) .nil)) ?_
  refine Tri.seq fun K1 hK1 => ?_
  refine Tri.region ?_
  refine Ops.box (Has.t rfl) rfl fun b1 => ?_
  refine Ops.alloc [isI 0, isI 0, SlK 2 zc ([] : List (Bool × List Nat))] zero24 (fun _ _ => ⟨⟨rfl, by decide, by decide⟩, ⟨rfl, by decide, by decide⟩, nilK, trivial⟩) rfl fun b2 => ?_
  refine st (OK1.as (Has.cI 0 rfl)) rfl ?_
  refine nl ?_
  refine At.thn (hK1 _ _ ?_); clear hK1
  refine Tri.seq fun K2 hK2 => ?_
  refine Tri.seq fun K3 hK3 => ?_
  refine Tri.region ?_
  refine st (OK1.load (Has.t rfl) (i := 1) rfl ty24 rfl (Ss' := [_, _, _]) rfl) rfl ?_
  refine st (OK1.call (zmat_Formed) (.cons (Has.t rfl) .nil)) rfl ?_
  refine st (OK1.not (Has.t rfl)) rfl ?_
  refine st (OK1.mv (Has.t rfl)) rfl ?_
  refine stF rfl rfl (fun hg => have hg' := BP.t hg; OK1.fieldAddr (Has.t rfl) fld24_0 ty3) rfl ?_
  refine stF rfl rfl (fun hg => have hg' := BP.t hg; OK1.load1 (Has.g rfl hg) (i := 1) rfl ty3 rfl) rfl ?_
  refine stF rfl rfl (fun hg => have hg' := BP.t hg; OK1.fieldAddr (Has.t rfl) fld24_1 ty3) rfl ?_
  refine stF rfl rfl (fun hg => have hg' := BP.t hg; OK1.load1 (Has.g rfl hg) (i := 1) rfl ty3 rfl) rfl ?_
  refine stF rfl rfl (fun hg => have hg' := BP.t hg; OK1.neI (Has.g rfl hg) (Has.g rfl hg)) rfl ?_
  refine st (OK1.pickOr (Has.t rfl) (fun h => Has.g rfl (ng h))) rfl ?_
  refine nl ?_
  refine At.thn (hK3 _ _ ?_); clear hK3
  refine Tri.cv (Cv.wk (.cons (t := 1) (Has.t rfl) (.cons (t := 2) (Has.t rfl) (.cons (t := 3) (Has.t rfl) (.cons (t := 20) (Has.t rfl) .nil))))) ?_
  refine Tri.cond (Has.t rfl) (fun hc1 => ?_) (fun hc1 => ?_)
  · have hc1 := BP.t hc1
    refine Tri.seq fun K4 hK4 => ?_
    refine Tri.region ?_
    refine st (OK1.build [isI 0, isI 0, SlK 2 zc ([] : List (Bool × List Nat))] pl24 zero24 (fun _ _ => ⟨⟨rfl, by decide, by decide⟩, ⟨rfl, by decide, by decide⟩, nilK, trivial⟩) .nil (Z'' := [_, _, _]) rfl) rfl ?_
    refine Ops.store (Has.t rfl) (Has.t rfl) (i := 0) rfl ty24 rfl rfl (Ss' := [_, _, _]) rfl (M' := [(some _, cellM [_, _, _]), _]) rfl ?_
    refine st (OK1.as (Has.cI 2 rfl)) rfl ?_
    refine nl ?_
    refine At.thn (hK4 _ _ ?_); clear hK4
    refine Tri.ret ?_
    refine At.thr ?_
    refine rtN (.inl rfl) Try.results30 rfl rfl (.cell rfl (i := 0) rfl ty24 rfl ?_ (.tmp (Has.t' rfl ?_) .nil))
    · rfl
    · rfl
  · have hc1 := BP.f hc1
    exfalso; rw [Bool.and_eq_false_iff] at hf; rcases hf with h | h
    · rw [h] at hc1; simp at hc1
    · rw [decide_eq_false_iff_not] at h; exact h hc1.2
set_option maxHeartbeats 4000000 in
theorem zchar_Adjugate {n K : Nat} {xs : List (Bool × List Nat)} (hx : Bd (vals xs) K) (hB : K + flB n K n + 2 * n ≤ 900) (hn : n ≤ 64) (hl : xs.length = n * n) : Ctr Try.prog 29 [isM (n : Int) (n : Int) xs] (isTup [isMz n n (adjL n (vals xs)), isI 0]) := by
  refine Ctr.intro Try.func29 rfl (by kernel_rfl) Try.ntmps29 rfl fun w0 F0 => ?_
  refine Tri.cv (Cv.wk (.cons (t := 0) (Has.t rfl) .nil)) ?_
  have hfo := formB_true hn hn hl
  have hfs : (formB (n : Int) (n : Int) xs.length && decide ((n : Int) = (n : Int))) = true := by rw [hfo]; simp
  have h1 : (List.length (words (-1 : Int).natAbs)) ≤ 1 := nw_small' (by decide)
  have hMl := flM_len n (vals xs) n
  have hMb : Bd (flM n (vals xs) n) (flB n K n) := by
    rcases Nat.eq_zero_or_pos n with h0 | h0
    · exact fun i => by rw [cf_high (by rw [flM_len, h0]; exact Nat.zero_le _), Int.natAbs_zero, words_zero]; exact Nat.zero_le _
    · exact fl_bd hx n h0 (Nat.le_refl _)
  have has := adj_same (n := n) (L := vals xs)
  refine Tri.seq fun K1 hK1 => ?_
  refine Tri.region ?_
  refine Ops.box (Has.t rfl) rfl fun b1 => ?_
  refine Ops.alloc [isI 0, isI 0, nilS] zero24 (fun _ _ => ⟨⟨rfl, by decide, by decide⟩, ⟨rfl, by decide, by decide⟩, rfl, trivial⟩) rfl fun b2 => ?_
  refine st (OK1.as (Has.cI 0 rfl)) rfl ?_
  refine nl ?_
  refine At.thn (hK1 _ _ ?_); clear hK1
  refine Tri.seq fun K2 hK2 => ?_
  refine Tri.seq fun K3 hK3 => ?_
  refine Tri.region ?_
  refine st (OK1.load (Has.t rfl) (i := 1) rfl ty24 rfl (Ss' := [_, _, _]) rfl) rfl ?_
  refine st (OK1.eq (OK1.call (zchar_square) (.cons (Has.t rfl) .nil)) ((show isB _ = isB true from isB_eq (hfs)))) rfl ?_
  refine st (OK1.not (Has.t rfl)) rfl ?_
  refine nl ?_
  refine At.thn (hK3 _ _ ?_); clear hK3
  refine Tri.cond (Has.t rfl) (fun hc1 => ?_) (fun hc1 => ?_)
  · have hc1 := BP.t hc1
    exfalso; simp at hc1
  · have hc1 := BP.f hc1
    refine Tri.skip ?_
    refine At.thn (hK2 _ _ ?_); clear hK2
    refine Tri.seq fun K4 hK4 => ?_
    refine Tri.region ?_
    refine st (OK1.load (Has.t rfl) (i := 1) rfl ty24 rfl (Ss' := [_, _, _]) rfl) rfl ?_
    refine st (OK1.call (zchar_steps hx hB hn hl) (.cons (Has.t rfl) .nil)) rfl ?_
    refine st (OK1.mv (Has.t rfl)) rfl ?_
    refine st (OK1.ext (Has.t rfl) rfl) rfl ?_
    refine st (OK1.ext (Has.t rfl) rfl) rfl ?_
    refine Ops.alloc [isI 0, isI 0, nilS] zero24 (fun _ _ => ⟨⟨rfl, by decide, by decide⟩, ⟨rfl, by decide, by decide⟩, rfl, trivial⟩) rfl fun b3 => ?_
    refine st (OK1.as (Has.t rfl)) rfl ?_
    refine Ops.store (Has.t rfl) (Has.t rfl) (i := 0) rfl ty24 rfl rfl (Ss' := [_, _, _]) rfl (M' := [(some _, cellM [_, _, _]), _, _]) rfl ?_
    refine nl ?_
    refine At.thn (hK4 _ _ ?_); clear hK4
    refine Tri.cv (Cv.wk (.cons (t := 1) (Has.t rfl) (.cons (t := 2) (Has.t rfl) (.cons (t := 3) (Has.t rfl) (.cons (t := 5) (Has.t rfl) .nil))))) ?_
    refine Tri.seq fun K5 hK5 => ?_
    refine Tri.seq fun K6 hK6 => ?_
    refine Tri.region ?_
    refine st (OK1.fieldAddr (Has.t rfl) fld24_0 ty3) rfl ?_
    refine st (OK1.load1 (Has.t rfl) (i := 2) rfl ty3 rfl) rfl ?_
    refine st (OK1.remI (Has.t rfl) (Has.cI 2 rfl) (by first | omega | assumption) (by first | omega | assumption) (by first | omega | assumption)) rfl ?_
    refine st (OK1.eqI (Has.t rfl) (Has.cI 0 rfl)) rfl ?_
    refine nl ?_
    refine At.thn (hK6 _ _ ?_); clear hK6
    refine Tri.cond (Has.t rfl) (fun hc2 => ?_) (fun hc2 => ?_)
    · have hc2 := BP.t hc2
      have hev : n % 2 = 0 := (by omega)
      rw [if_pos hev] at has
      refine Tri.dr ?_
      refine DrG.st (i := 0) [] rfl rfl rfl (by kernel_rfl) (OKG.o rfl (OK1.load (Has.t rfl) (i := 0) rfl ty24 rfl (Ss' := [_, _, _]) rfl)) ?_
      refine DrG.st (i := 1) [] rfl rfl rfl (by kernel_rfl) (OKG.o rfl (OK1.call (zint_Of) (.cons (Has.cI (-1) rfl) .nil))) ?_
      refine DrG.st (i := 2) [19, 20] rfl rfl rfl (by kernel_rfl) (OKG.o rfl (OK1.eq (OK1.call (zmat_Scale (R := n) (C := n) (K := flB n K n) (by rw [vals_nz]; exact hMb) (by omega) (by rw [val_words]; omega) hn hn (by rw [List.length_map]; exact hMl)) (.cons (Has.t rfl) (.cons (Has.t rfl) .nil))) ((show _ = isTup [isMz n n (sclL n n (-1) (flM n (vals xs) n)), isI 0] from by rw [vals_nz]; first | rw [zv_nf] | rw [zv_nz])))) ?_
      refine DrG.st (i := 3) [21] rfl rfl rfl (by kernel_rfl) (OKG.o rfl (OK1.ext (Has.t rfl) rfl)) ?_
      refine DrG.st (i := 4) [21] rfl rfl rfl (by kernel_rfl) (OKG.o rfl (OK1.ext (Has.t rfl) rfl)) ?_
      refine DrG.fin (n := 5) mixed (by kernel_rfl) (by kernel_rfl) (by kernel_rfl) ?_
      refine Ops.cv (Cv.wk (.cons (t := 2) (Has.t rfl) (.cons (t := 3) (Has.t rfl) (.cons (t := 5) (Has.t rfl) (.cons (t := 22) (Has.t rfl) (.cons (t := 23) (Has.t rfl) .nil)))))) ?_
      refine st (OK1.call (zchar_must) (.cons (Has.t rfl) (.cons (Has.t rfl) .nil))) rfl ?_
      refine Ops.store (Has.t rfl) (Has.t rfl) (i := 0) rfl ty24 rfl rfl (Ss' := [_, _, _]) rfl (M' := [(some _, cellM [_, _, _]), _, _]) rfl ?_
      refine nl ?_
      refine At.thn (hK5 _ _ ?_); clear hK5
      refine Tri.seq fun K7 hK7 => ?_
      refine Tri.region ?_
      refine st (OK1.load (Has.t rfl) (i := 0) rfl ty24 rfl (Ss' := [_, _, _]) rfl) rfl ?_
      refine Ops.store (Has.t rfl) (Has.t rfl) (i := 1) rfl ty24 rfl rfl (Ss' := [_, _, _]) rfl (M' := [_, (some _, cellM [_, _, _]), _]) rfl ?_
      refine st (OK1.as (Has.cI 0 rfl)) rfl ?_
      refine nl ?_
      refine At.thn (hK7 _ _ ?_); clear hK7
      refine Tri.cv (Cv.wk (.cons (t := 2) (Has.t rfl) (.cons (t := 3) (Has.t rfl) .nil))) ?_
      refine Tri.ret ?_
      refine rtN (.inl rfl) Try.results29 rfl rfl (.cell rfl (i := 1) rfl ty24 rfl ?_ (.tmp (Has.t' rfl ?_) .nil))
      · exact isMz_eq has
      · rfl
    · have hc2 := BP.f hc2
      have hev : ¬ n % 2 = 0 := (by omega)
      rw [if_neg hev] at has
      refine Tri.skip ?_
      refine At.thn (hK5 _ _ ?_); clear hK5
      refine Tri.cv (Cv.wk (.cons (t := 2) (Has.t rfl) (.cons (t := 3) (Has.t rfl) (.cons (t := 5) (Has.t rfl) .nil)))) ?_
      refine Tri.seq fun K8 hK8 => ?_
      refine Tri.region ?_
      refine st (OK1.load (Has.t rfl) (i := 0) rfl ty24 rfl (Ss' := [_, _, _]) rfl) rfl ?_
      refine Ops.store (Has.t rfl) (Has.t rfl) (i := 1) rfl ty24 rfl rfl (Ss' := [_, _, _]) rfl (M' := [_, (some _, cellM [_, _, _]), _]) rfl ?_
      refine st (OK1.as (Has.cI 0 rfl)) rfl ?_
      refine nl ?_
      refine At.thn (hK8 _ _ ?_); clear hK8
      refine Tri.ret ?_
      refine rtN (.inl rfl) Try.results29 rfl rfl (.cell rfl (i := 1) rfl ty24 rfl ?_ (.tmp (Has.t' rfl ?_) .nil))
      · exact isMz_eq has
      · rfl
set_option maxHeartbeats 4000000 in
theorem zchar_Adjugate_bad {r c : Int} {xs : List (Bool × List Nat)} (hf : (formB r c xs.length && decide (r = c)) = false) : Ctr Try.prog 29 [isM r c xs] (isTup [isM0, isI 2]) := by
  refine Ctr.intro Try.func29 rfl (by kernel_rfl) Try.ntmps29 rfl fun w0 F0 => ?_
  refine Tri.cv (Cv.wk (.cons (t := 0) (Has.t rfl) .nil)) ?_
  refine Tri.seq fun K1 hK1 => ?_
  refine Tri.region ?_
  refine Ops.box (Has.t rfl) rfl fun b1 => ?_
  refine Ops.alloc [isI 0, isI 0, SlK 2 zc ([] : List (Bool × List Nat))] zero24 (fun _ _ => ⟨⟨rfl, by decide, by decide⟩, ⟨rfl, by decide, by decide⟩, nilK, trivial⟩) rfl fun b2 => ?_
  refine st (OK1.as (Has.cI 0 rfl)) rfl ?_
  refine nl ?_
  refine At.thn (hK1 _ _ ?_); clear hK1
  refine Tri.seq fun K2 hK2 => ?_
  refine Tri.seq fun K3 hK3 => ?_
  refine Tri.region ?_
  refine st (OK1.load (Has.t rfl) (i := 1) rfl ty24 rfl (Ss' := [_, _, _]) rfl) rfl ?_
  refine st (OK1.eq (OK1.call (zchar_square) (.cons (Has.t rfl) .nil)) ((show isB _ = isB false from isB_eq (hf)))) rfl ?_
  refine st (OK1.not (Has.t rfl)) rfl ?_
  refine nl ?_
  refine At.thn (hK3 _ _ ?_); clear hK3
  refine Tri.cond (Has.t rfl) (fun hc1 => ?_) (fun hc1 => ?_)
  · have hc1 := BP.t hc1
    refine Tri.seq fun K4 hK4 => ?_
    refine Tri.region ?_
    refine st (OK1.build [isI 0, isI 0, SlK 2 zc ([] : List (Bool × List Nat))] pl24 zero24 (fun _ _ => ⟨⟨rfl, by decide, by decide⟩, ⟨rfl, by decide, by decide⟩, nilK, trivial⟩) .nil (Z'' := [_, _, _]) rfl) rfl ?_
    refine Ops.store (Has.t rfl) (Has.t rfl) (i := 0) rfl ty24 rfl rfl (Ss' := [_, _, _]) rfl (M' := [(some _, cellM [_, _, _]), _]) rfl ?_
    refine st (OK1.as (Has.cI 2 rfl)) rfl ?_
    refine nl ?_
    refine At.thn (hK4 _ _ ?_); clear hK4
    refine Tri.cv (Cv.wk (.cons (t := 1) (Has.t rfl) (.cons (t := 2) (Has.t rfl) (.cons (t := 3) (Has.t rfl) .nil)))) ?_
    refine Tri.ret ?_
    refine At.thr ?_
    refine rtN (.inl rfl) Try.results29 rfl rfl (.cell rfl (i := 0) rfl ty24 rfl ?_ (.tmp (Has.t' rfl ?_) .nil))
    · rfl
    · rfl
  · have hc1 := BP.f hc1
    exfalso; simp at hc1
end Go.Proofs.Ytgkbekcpmbjbdaa
/- Contracts: layer 26's laws: adjugates. -/
namespace Go.Proofs.Ytgkbekcpmbjbdaa
open Go.En Go.RowKit
set_option linter.unusedVariables false
set_option maxRecDepth 10000
open Go.Nt
open Go.Pz
open Go.Mz
open Go.Hn
open Go.Hp
open Go.Dt
open Go.Ch
set_option maxHeartbeats 4000000 in
theorem c_ZcharAdjugates_bad (r c : Int) (xs : List (Bool × List Nat)) (hf : (formB r c xs.length && decide (r = c)) = false) : Ctr Try.prog 6 [isM r c xs] (isB true) := by
  refine Ctr.intro Try.func6 rfl (by kernel_rfl) Try.ntmps6 rfl fun w0 F0 => ?_
  refine Tri.cv (Cv.wk (.cons (t := 0) (Has.t rfl) .nil)) ?_
  refine Tri.seq fun K1 hK1 => ?_
  refine Tri.region ?_
  refine Ops.box (Has.t rfl) rfl fun b1 => ?_
  refine st (OK1.as (Has.cB false)) rfl ?_
  refine nl ?_
  refine At.thn (hK1 _ _ ?_); clear hK1
  refine Tri.seq fun K2 hK2 => ?_
  refine Tri.seq fun K3 hK3 => ?_
  refine Tri.region ?_
  refine st (OK1.call (law26_awake) .nil) rfl ?_
  refine st (OK1.not (Has.t rfl)) rfl ?_
  refine st (OK1.mv (Has.t rfl)) rfl ?_
  refine stF rfl rfl (fun hg => have hg' := BP.t hg; OK1.load (Has.t rfl) (i := 0) rfl ty24 rfl (Ss' := [_, _, _]) rfl) rfl ?_
  refine stF rfl rfl (fun hg => have hg' := BP.t hg; OK1.call (ref11_Few) (.cons (Has.g rfl hg) (.cons (Has.cI 4 rfl) (.cons (Has.cI 2 rfl) .nil)))) rfl ?_
  refine stF rfl rfl (fun hg => have hg' := BP.t hg; OK1.not (Has.g rfl hg)) rfl ?_
  refine st (OK1.pickOr (Has.t rfl) (fun h => Has.g rfl (ng h))) rfl ?_
  refine nl ?_
  refine At.thn (hK3 _ _ ?_); clear hK3
  refine Tri.cv (Cv.wk (.cons (t := 1) (Has.t rfl) (.cons (t := 2) (Has.t rfl) (.cons (t := 13) (Has.t rfl) .nil)))) ?_
  refine Tri.cond (Has.t rfl) (fun hc1 => ?_) (fun hc1 => ?_)
  · have hc1 := BP.t hc1
    refine Tri.seq fun K4 hK4 => ?_
    refine Tri.region ?_
    refine st (OK1.call (law26_awake) .nil) rfl ?_
    refine st (OK1.as (Has.t rfl)) rfl ?_
    refine nl ?_
    refine At.thn (hK4 _ _ ?_); clear hK4
    refine Tri.ret ?_
    refine At.thr ?_
    refine rt1 (.inl rfl) Try.results6 rfl (.tmp (Has.t' rfl ?_) .nil)
    all_goals (rfl)
  · have hc1 := BP.f hc1
    refine Tri.skip ?_
    refine At.thn (hK2 _ _ ?_); clear hK2
    refine Tri.seq fun K5 hK5 => ?_
    refine Tri.region ?_
    refine st (OK1.load (Has.t rfl) (i := 0) rfl ty24 rfl (Ss' := [_, _, _]) rfl) rfl ?_
    refine st (OK1.call (zchar_Adjugate_bad hf) (.cons (Has.t rfl) .nil)) rfl ?_
    refine st (OK1.mv (Has.t rfl)) rfl ?_
    refine st (OK1.ext (Has.t rfl) rfl) rfl ?_
    refine st (OK1.ext (Has.t rfl) rfl) rfl ?_
    refine Ops.alloc [isI 0, isI 0, nilS] zero24 (fun _ _ => ⟨⟨rfl, by decide, by decide⟩, ⟨rfl, by decide, by decide⟩, rfl, trivial⟩) rfl fun b2 => ?_
    refine Ops.store (Has.t rfl) (Has.t rfl) (i := 0) rfl ty24 rfl rfl (Ss' := [_, _, _]) rfl (M' := [(some _, cellM [_, _, _]), _]) rfl ?_
    refine st (OK1.as (Has.t rfl)) rfl ?_
    refine nl ?_
    refine At.thn (hK5 _ _ ?_); clear hK5
    refine Tri.cv (Cv.wk (.cons (t := 1) (Has.t rfl) (.cons (t := 2) (Has.t rfl) (.cons (t := 3) (Has.t rfl) (.cons (t := 4) (Has.t rfl) .nil))))) ?_
    refine Tri.seq fun K6 hK6 => ?_
    refine Tri.region ?_
    refine st (OK1.load (Has.t rfl) (i := 1) rfl ty24 rfl (Ss' := [_, _, _]) rfl) rfl ?_
    refine st (OK1.call (bareiss_Adjugate_bad hf) (.cons (Has.t rfl) .nil)) rfl ?_
    refine st (OK1.mv (Has.t rfl)) rfl ?_
    refine st (OK1.ext (Has.t rfl) rfl) rfl ?_
    refine st (OK1.ext (Has.t rfl) rfl) rfl ?_
    refine Ops.alloc [isI 0, isI 0, nilS] zero24 (fun _ _ => ⟨⟨rfl, by decide, by decide⟩, ⟨rfl, by decide, by decide⟩, rfl, trivial⟩) rfl fun b3 => ?_
    refine Ops.store (Has.t rfl) (Has.t rfl) (i := 0) rfl ty24 rfl rfl (Ss' := [_, _, _]) rfl (M' := [(some _, cellM [_, _, _]), _, _]) rfl ?_
    refine st (OK1.as (Has.t rfl)) rfl ?_
    refine nl ?_
    refine At.thn (hK6 _ _ ?_); clear hK6
    refine Tri.cv (Cv.wk (.cons (t := 2) (Has.t rfl) (.cons (t := 3) (Has.t rfl) (.cons (t := 4) (Has.t rfl) (.cons (t := 5) (Has.t rfl) (.cons (t := 6) (Has.t rfl) .nil)))))) ?_
    refine Tri.seq fun K7 hK7 => ?_
    refine Tri.region ?_
    refine st (OK1.mv (Has.t rfl)) rfl ?_
    refine st (OK1.mv (Has.t rfl)) rfl ?_
    refine st (OK1.eqI (Has.t rfl) (Has.t rfl)) rfl ?_
    refine st (OK1.mv (Has.t rfl)) rfl ?_
    refine stT rfl rfl (fun hg => have hg' := BP.t hg; OK1.fieldAddr (Has.t rfl) fld24_0 ty3) rfl ?_
    refine stT rfl rfl (fun hg => have hg' := BP.t hg; OK1.load1 (Has.g rfl hg) (i := 1) rfl ty3 rfl) rfl ?_
    refine stT rfl rfl (fun hg => have hg' := BP.t hg; OK1.fieldAddr (Has.t rfl) fld24_0 ty3) rfl ?_
    refine stT rfl rfl (fun hg => have hg' := BP.t hg; OK1.load1 (Has.g rfl hg) (i := 0) rfl ty3 rfl) rfl ?_
    refine stT rfl rfl (fun hg => have hg' := BP.t hg; OK1.eqI (Has.g rfl hg) (Has.g rfl hg)) rfl ?_
    refine st (OK1.pickAnd (Has.t rfl) (fun h => Has.g rfl h)) rfl ?_
    refine st (OK1.mv (Has.t rfl)) rfl ?_
    refine stT rfl rfl (fun hg => have hg' := BP.t hg; OK1.mv (Has.t rfl)) rfl ?_
    refine stT rfl rfl (fun hg => have hg' := BP.t hg; OK1.neI (Has.g rfl hg) (Has.cI 0 rfl)) rfl ?_
    refine stT rfl rfl (fun hg => have hg' := BP.t hg; OK1.mv (Has.g rfl hg)) rfl ?_
    refine stGT rfl rfl (fun hg => have hg' := BP.t hg; OK1.load (Has.t rfl) (i := 1) rfl ty24 rfl (Ss' := [_, _, _]) rfl) rfl ?_
    refine stGT rfl rfl (fun hg => have hg' := BP.t hg; OK1.call (ref11_None (r := 0) (c := 0) (xs := [])) (.cons (Has.g rfl hg) .nil)) rfl ?_
    refine stT rfl rfl (fun hg => have hg' := BP.t hg; OK1.pickAnd (Has.g rfl hg) (fun h => Has.g rfl (ga hg h))) rfl ?_
    refine stT rfl rfl (fun hg => have hg' := BP.t hg; OK1.mv (Has.g rfl hg)) rfl ?_
    refine stGF rfl rfl (fun hg => have hg' := BP.t hg; OK1.load (Has.t rfl) (i := 1) rfl ty24 rfl (Ss' := [_, _, _]) rfl) rfl ?_
    refine stGF rfl rfl (fun hg => have hg' := BP.t hg; OK1.load (Has.t rfl) (i := 0) rfl ty24 rfl (Ss' := [_, _, _]) rfl) rfl ?_
    refine stGF rfl rfl (fun hg => have hg' := BP.t hg; OK1.call (zmat_Same (K := 0) (xs := []) (ys := []) (Bd.nil 0) (Bd.nil 0) (by decide)) (.cons (Has.g rfl hg) (.cons (Has.g rfl hg) .nil))) rfl ?_
    refine stGF rfl rfl (fun hg => have hg' := BP.t hg; OK1.mv (Has.g rfl hg)) rfl ?_
    refine stGT rfl rfl (fun hg => have hg' := BP.t hg; OK1.load (Has.t rfl) (i := 1) rfl ty24 rfl (Ss' := [_, _, _]) rfl) rfl ?_
    refine stGT rfl rfl (fun hg => have hg' := BP.t hg; OK1.call (ref11_Normal (l := []) (K := 0) (Bd.nil 0) (by decide) (by decide)) (.cons (Has.g rfl hg) .nil)) rfl ?_
    refine stGF rfl rfl (fun hg => have hg' := BP.t hg; OK1.pickAnd (Has.g rfl hg) (fun h => Has.g rfl (ga hg h))) rfl ?_
    refine stT rfl rfl (fun hg => have hg' := BP.t hg; OK1.pickOr (Has.g rfl hg) (fun h => Has.g rfl (gn hg h))) rfl ?_
    refine st (OK1.pickAnd (Has.t rfl) (fun h => Has.g rfl h)) rfl ?_
    refine st (OK1.as (Has.t rfl)) rfl ?_
    refine nl ?_
    refine At.thn (hK7 _ _ ?_); clear hK7
    refine Tri.cv (Cv.wk (.cons (t := 2) (Has.t rfl) .nil)) ?_
    refine Tri.ret ?_
    refine rt1 (.inl rfl) Try.results6 rfl (.tmp (Has.t' rfl ?_) .nil)
    all_goals (rfl)
set_option maxHeartbeats 4000000 in
theorem c_ZcharAdjugates_ok (n : Nat) (xs : List (Bool × List Nat)) (hn : n ≤ 64) (hl : xs.length = n * n) : Ctr Try.prog 6 [isM (n : Int) (n : Int) xs] (isB true) := by
  refine Ctr.intro Try.func6 rfl (by kernel_rfl) Try.ntmps6 rfl fun w0 F0 => ?_
  refine Tri.cv (Cv.wk (.cons (t := 0) (Has.t rfl) .nil)) ?_
  refine Tri.fact (Has.okM (Has.t (t := 0) rfl)) fun okp0 => ?_
  have hfo := formB_true hn hn hl
  have hfs : (formB (n : Int) (n : Int) xs.length && decide ((n : Int) = (n : Int))) = true := by rw [hfo]; simp
  have hRC := side_le hn hn
  refine Tri.seq fun K1 hK1 => ?_
  refine Tri.region ?_
  refine Ops.box (Has.t rfl) rfl fun b1 => ?_
  refine st (OK1.as (Has.cB false)) rfl ?_
  refine nl ?_
  refine At.thn (hK1 _ _ ?_); clear hK1
  refine Tri.seq fun K2 hK2 => ?_
  refine Tri.seq fun K3 hK3 => ?_
  refine Tri.region ?_
  refine st (OK1.call (law26_awake) .nil) rfl ?_
  refine st (OK1.not (Has.t rfl)) rfl ?_
  refine st (OK1.mv (Has.t rfl)) rfl ?_
  refine stF rfl rfl (fun hg => have hg' := BP.t hg; OK1.load (Has.t rfl) (i := 0) rfl ty24 rfl (Ss' := [_, _, _]) rfl) rfl ?_
  refine stF rfl rfl (fun hg => have hg' := BP.t hg; OK1.call (ref11_Few) (.cons (Has.g rfl hg) (.cons (Has.cI 4 rfl) (.cons (Has.cI 2 rfl) .nil)))) rfl ?_
  refine stF rfl rfl (fun hg => have hg' := BP.t hg; OK1.not (Has.g rfl hg)) rfl ?_
  refine st (OK1.pickOr (Has.t rfl) (fun h => Has.g rfl (ng h))) rfl ?_
  refine nl ?_
  refine At.thn (hK3 _ _ ?_); clear hK3
  refine Tri.cv (Cv.wk (.cons (t := 1) (Has.t rfl) (.cons (t := 2) (Has.t rfl) (.cons (t := 13) (Has.t rfl) .nil)))) ?_
  refine Tri.cond (Has.t rfl) (fun hc1 => ?_) (fun hc1 => ?_)
  · have hc1 := BP.t hc1
    skip
    refine Tri.seq fun K4 hK4 => ?_
    refine Tri.region ?_
    refine st (OK1.call (law26_awake) .nil) rfl ?_
    refine st (OK1.as (Has.t rfl)) rfl ?_
    refine nl ?_
    refine At.thn (hK4 _ _ ?_); clear hK4
    refine Tri.ret ?_
    refine At.thr ?_
    refine rt1 (.inl rfl) Try.results6 rfl (.tmp (Has.t' rfl ?_) .nil)
    all_goals (first | rfl | exact isB_eq (by simp))
  · have hc1 := BP.f hc1
    have HF0 : (n : Int) ≤ 4 ∧ fewB xs 100 2 = true := (by simpa [and_assoc] using hc1)
    obtain ⟨hn4, HF⟩ := HF0
    obtain ⟨_, hb⟩ := fewB_bd (N := 100) (K := 2) okp0 HF rfl rfl (by decide)
    have hfb : flB n 2 n ≤ 1 + 3 * 11 := Nat.add_le_add_left (Nat.mul_le_mul (by omega) (by omega)) _
    have hAl : (adjL n (vals xs)).length = n * n := by rw [adjL_eq]; exact tab_len _ _ _
    have hAb : Bd (adjL n (vals xs)) 100 := by
      rw [adjL_eq]
      exact Bd_tab fun i k => by
        unfold adjG
        rw [Int.natAbs_mul, show (sg (i + k)).natAbs = 1 from by unfold sg; split <;> rfl, Nat.one_mul]
        have h1 := det_nw (A := fun p q => mf n (vals xs) (skip k p) (skip i q)) (K := 2) (fun _ _ => hb _) (n - 1)
        have h2 : (n - 1) * (2 + (n - 1)) ≤ 3 * 5 := Nat.mul_le_mul (by omega) (by omega)
        omega
    obtain ⟨X, hX⟩ : ∃ X, X = adjL n (vals xs) := ⟨_, rfl⟩
    rw [← hX] at hAl hAb
    have hfX : formB (n : Int) (n : Int) (X.map nz).length = true := formB_true hn hn (by rw [List.length_map]; exact hAl)
    have hfX2 : formB (n : Int) (n : Int) X.length = true := formB_true hn hn hAl
    refine Tri.skip ?_
    refine At.thn (hK2 _ _ ?_); clear hK2
    refine Tri.seq fun K5 hK5 => ?_
    refine Tri.region ?_
    refine st (OK1.load (Has.t rfl) (i := 0) rfl ty24 rfl (Ss' := [_, _, _]) rfl) rfl ?_
    refine st (OK1.eq (OK1.call (zchar_Adjugate (K := 2) hb (by omega) hn hl) (.cons (Has.t rfl) .nil)) ((show _ = isTup [isMz n n X, isI 0] from by rw [hX]))) rfl ?_
    refine st (OK1.mv (Has.t rfl)) rfl ?_
    refine st (OK1.ext (Has.t rfl) rfl) rfl ?_
    refine st (OK1.ext (Has.t rfl) rfl) rfl ?_
    refine Ops.alloc [isI 0, isI 0, nilS] zero24 (fun _ _ => ⟨⟨rfl, by decide, by decide⟩, ⟨rfl, by decide, by decide⟩, rfl, trivial⟩) rfl fun b2 => ?_
    refine Ops.store (Has.t rfl) (Has.t rfl) (i := 0) rfl ty24 rfl rfl (Ss' := [_, _, _]) rfl (M' := [(some _, cellM [_, _, _]), _]) rfl ?_
    refine st (OK1.as (Has.t rfl)) rfl ?_
    refine nl ?_
    refine At.thn (hK5 _ _ ?_); clear hK5
    refine Tri.cv (Cv.wk (.cons (t := 1) (Has.t rfl) (.cons (t := 2) (Has.t rfl) (.cons (t := 3) (Has.t rfl) (.cons (t := 4) (Has.t rfl) .nil))))) ?_
    refine Tri.seq fun K6 hK6 => ?_
    refine Tri.region ?_
    refine st (OK1.load (Has.t rfl) (i := 1) rfl ty24 rfl (Ss' := [_, _, _]) rfl) rfl ?_
    refine st (OK1.eq (OK1.call (bareiss_Adjugate (K := 2) hb (by decide) (by decide) (by omega) hl) (.cons (Has.t rfl) .nil)) ((show _ = isTup [isMz n n X, isI 0] from by rw [hX]))) rfl ?_
    refine st (OK1.mv (Has.t rfl)) rfl ?_
    refine st (OK1.ext (Has.t rfl) rfl) rfl ?_
    refine st (OK1.ext (Has.t rfl) rfl) rfl ?_
    refine Ops.alloc [isI 0, isI 0, nilS] zero24 (fun _ _ => ⟨⟨rfl, by decide, by decide⟩, ⟨rfl, by decide, by decide⟩, rfl, trivial⟩) rfl fun b3 => ?_
    refine Ops.store (Has.t rfl) (Has.t rfl) (i := 0) rfl ty24 rfl rfl (Ss' := [_, _, _]) rfl (M' := [(some _, cellM [_, _, _]), _, _]) rfl ?_
    refine st (OK1.as (Has.t rfl)) rfl ?_
    refine nl ?_
    refine At.thn (hK6 _ _ ?_); clear hK6
    refine Tri.cv (Cv.wk (.cons (t := 2) (Has.t rfl) (.cons (t := 3) (Has.t rfl) (.cons (t := 4) (Has.t rfl) (.cons (t := 5) (Has.t rfl) (.cons (t := 6) (Has.t rfl) .nil)))))) ?_
    refine Tri.seq fun K7 hK7 => ?_
    refine Tri.region ?_
    refine st (OK1.mv (Has.t rfl)) rfl ?_
    refine st (OK1.mv (Has.t rfl)) rfl ?_
    refine st (OK1.eqI (Has.t rfl) (Has.t rfl)) rfl ?_
    refine st (OK1.mv (Has.t rfl)) rfl ?_
    refine stT rfl rfl (fun hg => have hg' := BP.t hg; OK1.fieldAddr (Has.t rfl) fld24_0 ty3) rfl ?_
    refine stT rfl rfl (fun hg => have hg' := BP.t hg; OK1.load1 (Has.g rfl hg) (i := 1) rfl ty3 rfl) rfl ?_
    refine stT rfl rfl (fun hg => have hg' := BP.t hg; OK1.fieldAddr (Has.t rfl) fld24_0 ty3) rfl ?_
    refine stT rfl rfl (fun hg => have hg' := BP.t hg; OK1.load1 (Has.g rfl hg) (i := 0) rfl ty3 rfl) rfl ?_
    refine stT rfl rfl (fun hg => have hg' := BP.t hg; OK1.eqI (Has.g rfl hg) (Has.g rfl hg)) rfl ?_
    refine st (OK1.pickAnd (Has.t rfl) (fun h => Has.g rfl h)) rfl ?_
    refine st (OK1.mv (Has.t rfl)) rfl ?_
    refine stT rfl rfl (fun hg => have hg' := BP.t hg; OK1.mv (Has.t rfl)) rfl ?_
    refine stT rfl rfl (fun hg => have hg' := BP.t hg; OK1.neI (Has.g rfl hg) (Has.cI 0 rfl)) rfl ?_
    refine stT rfl rfl (fun hg => have hg' := BP.t hg; OK1.mv (Has.g rfl hg)) rfl ?_
    refine stGT rfl rfl (fun hg => have hg' := BP.t hg; OK1.load (Has.t rfl) (i := 1) rfl ty24 rfl (Ss' := [_, _, _]) rfl) rfl ?_
    refine stGT rfl rfl (fun hg => have hg' := BP.t hg; OK1.call (ref11_None) (.cons (Has.g rfl hg) .nil)) rfl ?_
    refine stT rfl rfl (fun hg => have hg' := BP.t hg; OK1.pickAnd (Has.g rfl hg) (fun h => Has.g rfl (ga hg h))) rfl ?_
    refine stT rfl rfl (fun hg => have hg' := BP.t hg; OK1.mv (Has.g rfl hg)) rfl ?_
    refine stGF rfl rfl (fun hg => have hg' := BP.t hg; OK1.load (Has.t rfl) (i := 1) rfl ty24 rfl (Ss' := [_, _, _]) rfl) rfl ?_
    refine stGF rfl rfl (fun hg => have hg' := BP.t hg; OK1.load (Has.t rfl) (i := 0) rfl ty24 rfl (Ss' := [_, _, _]) rfl) rfl ?_
    refine stGF rfl rfl (fun hg => have hg' := BP.t hg; OK1.eq (OK1.call (zmat_Same (K := 100) (by rw [vals_nz]; exact hAb) (by rw [vals_nz]; exact hAb) (by decide)) (.cons (Has.g rfl hg) (.cons (Has.g rfl hg) .nil))) ((show isB _ = isB true from isB_eq (by rw [hfX]; simp)))) rfl ?_
    refine stGF rfl rfl (fun hg => have hg' := BP.t hg; OK1.mv (Has.g rfl hg)) rfl ?_
    refine stGT rfl rfl (fun hg => have hg' := BP.t hg; OK1.load (Has.t rfl) (i := 1) rfl ty24 rfl (Ss' := [_, _, _]) rfl) rfl ?_
    refine stGT rfl rfl (fun hg => have hg' := BP.t hg; OK1.eq (OK1.call (ref11_Normal hAb (by decide) (by omega)) (.cons (Has.g rfl hg) .nil)) ((show isB _ = isB true from isB_eq (hfX2)))) rfl ?_
    refine stGF rfl rfl (fun hg => have hg' := BP.t hg; OK1.pickAnd (Has.g rfl hg) (fun h => Has.g rfl (ga hg h))) rfl ?_
    refine stT rfl rfl (fun hg => have hg' := BP.t hg; OK1.pickOr (Has.g rfl hg) (fun h => Has.g rfl (gn hg h))) rfl ?_
    refine st (OK1.pickAnd (Has.t rfl) (fun h => Has.g rfl h)) rfl ?_
    refine st (OK1.as (Has.t rfl)) rfl ?_
    refine nl ?_
    refine At.thn (hK7 _ _ ?_); clear hK7
    refine Tri.cv (Cv.wk (.cons (t := 2) (Has.t rfl) .nil)) ?_
    refine Tri.ret ?_
    refine rt1 (.inl rfl) Try.results6 rfl (.tmp (Has.t' rfl ?_) .nil)
    all_goals (first | rfl | exact isB_eq (by simp))
theorem c_ZcharAdjugates (r c : Int) (xs : List (Bool × List Nat)) : Ctr Try.prog 6 [isM r c xs] (isB true) := by
  cases h : formB r c xs.length && decide (r = c) with
  | true =>
    rw [Bool.and_eq_true, decide_eq_true_eq] at h
    obtain ⟨h1, rfl⟩ := h
    obtain ⟨n, C, rfl, hC, h2, _, h4⟩ := formB_iff.1 h1
    obtain rfl : n = C := by omega
    exact c_ZcharAdjugates_ok n xs h2 h4
  | false => exact c_ZcharAdjugates_bad r c xs h
end Go.Proofs.Ytgkbekcpmbjbdaa
/- Slices of whole numbers that a law is handed. -/
namespace Go.En
open Go.RowKit Go.ChangeShapes Go.WideShapes Go.ChangeAt
set_option linter.unusedVariables false
theorem pair_get {α β : Type} (g h : α → β) : ∀ (l : List α) (j : Nat), (l.flatMap fun a => [g a, h a])[j]? = (l[j / 2]?).map (fun a => if j % 2 = 0 then g a else h a)
  | [], j => by simp
  | a :: l, 0 => by simp
  | a :: l, 1 => by simp
  | a :: l, j + 2 => by
    have := pair_get g h l j
    rw [show (j + 2) / 2 = j / 2 + 1 by omega, show (j + 2) % 2 = j % 2 by omega]
    simpa using this
section
variable {H : Type} {enc : TypeId × Value → H} {P : Program}
end
end Go.En
/- Matrices of whole numbers that a law is handed. -/
namespace Go.En
open Go.RowKit Go.ChangeShapes Go.WideShapes Go.ChangeAt
set_option linter.unusedVariables false
section
variable {H : Type} {enc : TypeId × Value → H} {P : Program}
theorem rd_Zs {W : World} {T e tb ts T' : TypeId} {fuel : Nat} {cs : List Value} {x : DataW H × List MemPlace} (hT : P.underlying T = some (.slice e)) (hfs : fsB P e = some [(tb, 0), (ts, 1)]) (hub : P.underlying tb = some .bool) (hu : P.underlying ts = some (.slice T')) (hu' : P.underlying T' = some (.int .u64)) (hc : P.cellsOf T' = 1) (hcb : P.cellsOf tb = 1) (hcs : P.cellsOf ts = 1) (hce : P.cellsOf e = 2)
    (hf : DataW.trod enc P W 0 (fun _ => true) true fuel T cs = some x) (hps : ∀ y ∈ x.2, y.block < W.heap.size) : ∃ (v : Value) (xs : List (Bool × List Nat)), cs = [v] ∧ (isZs xs).h W (fun b => b < W.heap.size) v := by
  obtain ⟨d, ps⟩ := x
  obtain ⟨fs, hue, hsz, hget⟩ := fsB_spec hfs
  obtain ⟨f0, g0, rfl, e0⟩ := hget 0 tb 0 rfl
  obtain ⟨f1, g1, rfl, e1⟩ := hget 1 ts 1 rfl
  have hfs2 : fs = #[f0, f1] := by
    apply Array.ext'
    have hl : fs.toList.length = 2 := by simpa using hsz
    match hq : fs.toList, hl with
    | [p, q], _ =>
      have a0 : fs.toList[0]? = some f0 := by simpa using g0
      have a1 : fs.toList[1]? = some f1 := by simpa using g1
      rw [hq] at a0 a1
      simp at a0 a1
      rw [a0, a1]
  subst hfs2
  rcases Deep.open_slice_pairs hT hue hce e0 e1 hcb hcs hf with ⟨h1, _⟩ | ⟨a, len, cap, m, n, V0, V1, D0, D1, P0, P1, h1, _, hlc, hcm, hm, hx, hel⟩
  · exact ⟨_, [], h1, nilK⟩
  · simp only [if_true] at hm
    subst m
    have hps' : ∀ i, i < cap → ∀ y ∈ P1 i, y.block < W.heap.size := fun i hi y hy => hps y (by
      have := (Prod.mk.inj hx).2
      rw [this]
      exact List.mem_append_right _ (List.mem_flatMap.2 ⟨i, List.mem_range.2 hi, List.mem_append_right _ hy⟩))
    obtain ⟨l, hl, hgl⟩ := list_of_get (p := fun i (x : Bool × List Nat) => V0 i = .bool x.1 ∧ (isWords x.2).h W (fun b => b < W.heap.size) (V1 i)) len (fun i hi => by
      obtain ⟨_, _, q0, q1⟩ := hel i (by omega)
      obtain ⟨b, hb, _⟩ := DataW.trod_bool hub q0
      obtain ⟨v, ws, hv1, hw⟩ := rd_row hu hu' hc word_of q1 (hps' i (by omega))
      obtain rfl : V1 i = v := by simpa using hv1
      exact ⟨(b, ws), by simpa using hb, hw⟩)
    refine ⟨_, l, h1, some a, cap, by rw [hl], by rw [hl]; exact hlc, hcm, flat_len zc_len l, ?_⟩
    rcases Nat.eq_zero_or_pos len with h0 | h0
    · exact .inl (by omega)
    · have hc0 := (hel 0 (by omega)).1
      have hs : a.spot = none := by
        cases hsp : a.spot with
        | none => rfl
        | some s =>
          simp only [Addr.add, Nat.zero_mul, if_true] at hc0
          unfold World.cell? at hc0
          rw [hsp] at hc0
          split at hc0 <;> simp at hc0
      obtain ⟨b, off, sp⟩ := a
      simp only at hs
      subst hs
      right
      refine ⟨b, off, rfl, ?_, (List.range len).flatMap (fun i => [V0 i, V1 i]), ?_, fun j u hj => ?_⟩
      · have : MemPlace.cell b (off + 0) ∈ ps := by
          have := (Prod.mk.inj hx).2
          rw [this]
          exact List.mem_append_left _ (List.mem_map.2 ⟨0, by simp; omega, rfl⟩)
        exact hps _ this
      · have hlen2 : ((List.range len).flatMap fun i => [V0 i, V1 i]).length = len * 2 := by
          have := flat_len (fk := fun (i : Nat) => [isB true, isB true]) (k := 2) (fun _ => rfl) (List.range len)
          rw [List.length_flatMap] at this ⊢
          simpa using this
        refine all2_of_get (by rw [flat_len zc_len, hlen2, hl]) (fun j S v hS hv => ?_)
        have hz := pair_get (fun p : Bool × List Nat => isB p.1) (fun p => isWords p.2) l j
        rw [show (l.flatMap fun a => [isB a.1, isWords a.2]) = l.flatMap zc from rfl, hS] at hz
        have hw := pair_get V0 V1 (List.range len) j
        rw [hv] at hw
        have hj : j / 2 < l.length := by
          rcases Nat.lt_or_ge (j / 2) l.length with h | h
          · exact h
          · rw [List.getElem?_eq_none h] at hz; cases hz
        rw [List.getElem?_eq_getElem hj] at hz
        rw [List.getElem?_range (by omega)] at hw
        simp only [Option.map_some, Option.some.injEq] at hz hw
        obtain ⟨k1, k2⟩ := hgl (j / 2) hj
        subst hz; subst hw
        by_cases hp : j % 2 = 0
        · rw [if_pos hp, if_pos hp, k1]; rfl
        · rw [if_neg hp, if_neg hp]; exact k2
      · have hw := pair_get V0 V1 (List.range len) j
        rw [hj] at hw
        have hjl : j / 2 < len := by
          rcases Nat.lt_or_ge (j / 2) len with h | h
          · exact h
          · rw [List.getElem?_eq_none (by simpa using h)] at hw; cases hw
        rw [List.getElem?_range hjl] at hw
        simp only [Option.map_some, Option.some.injEq] at hw
        obtain ⟨q0, q1, _, _⟩ := hel (j / 2) (by omega)
        rw [add_mk] at q0
        rw [add_mk] at q1
        by_cases hp : j % 2 = 0
        · rw [if_pos hp] at hw; subst hw
          rw [show off + j = off + j / 2 * 2 by omega]; exact q0
        · rw [if_neg hp] at hw; subst hw
          rw [show off + j = off + (j / 2 * 2 + 1) by omega]; exact q1
/-- two sides and numbers -/
theorem open_M {W : World} {base : Nat} {T ti tm e tb ts T' : TypeId} {v : Value} {d : DataW H} {ps : List MemPlace} (hfM : fsB P T = some [(ti, 0), (ti, 1), (tm, 2)]) (hui : P.underlying ti = some (.int .i64)) (hT : P.underlying tm = some (.slice e)) (hfs : fsB P e = some [(tb, 0), (ts, 1)]) (hub : P.underlying tb = some .bool) (hu : P.underlying ts = some (.slice T')) (hu' : P.underlying T' = some (.int .u64)) (hc : P.cellsOf T' = 1) (hcb : P.cellsOf tb = 1) (hcs : P.cellsOf ts = 1) (hce : P.cellsOf e = 2)
    (hci : P.cellsOf ti = 1) (hcm : P.cellsOf tm = 1) (hcT : P.cellsOf T = 3) (hv : Value.okWide P W .any base T v) (h : DataW.Trod enc P W 0 (fun _ => true) true T v d ps) (hps : ∀ x ∈ ps, x.block < W.heap.size) : ∃ x : Int × Int × List (Bool × List Nat), (isM x.1 x.2.1 x.2.2).h W (fun b => b < W.heap.size) v := by
  obtain ⟨fs, huT, hsz, hget⟩ := fsB_spec hfM
  have hv' := hv
  simp only [Value.okWide, huT] at hv'
  obtain ⟨cs, rfl, _, _⟩ := hv'
  obtain ⟨fuel, hf⟩ := h
  obtain ⟨xs, m, _, hx, hl, hxl, hfe⟩ := DataW.trod_struct huT hf
  simp [Value.cells] at hl hx
  obtain ⟨f0, g0, rfl, e0⟩ := hget 0 ti 0 rfl
  obtain ⟨f1, g1, k1, e1⟩ := hget 1 _ 1 rfl
  obtain ⟨f2, g2, rfl, e2⟩ := hget 2 tm 2 rfl
  have h0 := hfe 0 f0 g0
  have h1 := hfe 1 f1 g1
  have h2 := hfe 2 f2 g2
  rw [List.getElem?_eq_getElem (by rw [hxl, hsz]; simp)] at h0 h1 h2
  rw [e0, hci] at h0
  rw [e1, k1, hci] at h1
  rw [e2, hcm] at h2
  obtain ⟨r, hr, hr1, hr2⟩ := rd_I hui h0
  obtain ⟨c, hc1, hc2, hc3⟩ := rd_I hui h1
  obtain ⟨u, ws, hu1, hw⟩ := rd_Zs hT hfs hub hu hu' hc hcb hcs hce h2 (fun y hy => hps y (by
    rw [hx.2]
    exact List.mem_flatMap.2 ⟨_, List.getElem_mem _, hy⟩))
  refine ⟨(r, c, ws), cs.toList, by simp, ?_⟩
  have hcs2 : cs.toList = [.int .i64 r, .int .i64 c, u] := by
    have hlen : cs.toList.length = 3 := by rw [← hcT]; simpa using hl
    match hq : cs.toList, hlen with
    | [p, q, t], _ =>
      have a1 : [p] = [Value.int .i64 r] := by have := hr; simpa [Value.cells, hq] using this
      have a2 : [q] = [Value.int .i64 c] := by have := hc1; simpa [Value.cells, hq] using this
      have a3 : [t] = [u] := by have := hu1; simpa [Value.cells, hq] using this
      rw [List.cons.inj a1 |>.1, List.cons.inj a2 |>.1, List.cons.inj a3 |>.1]
  rw [hcs2]
  exact ⟨⟨rfl, hr1, hr2⟩, ⟨rfl, hc2, hc3⟩, hw, trivial⟩
end
end Go.En
/- A law of layer 26, as it is stated. -/
namespace Go.Proofs.Ytgkbekcpmbjbdaa
open Go.En Go.RowKit
set_option linter.unusedVariables false
set_option maxRecDepth 10000
open Go.ChangeShapes
open Go.WideShapes
open Go.ChangeAt
open Go.Nt
open Go.Pz
open Go.Mz
theorem opens_ZcharAdjugates : Opens Try.prog Try.f6 6 := by
  intro H enc W base args ds ps hval hA hlt
  rw [Try.params6] at hA hval
  obtain ⟨v0, vs0, d0, ds0, p0, q0, hargs, rfl, rfl, h0, r0⟩ := trodAll_cons hA
  obtain ⟨rfl, rfl, rfl⟩ := trodAll_nil r0
  obtain rfl : args = #[v0] := by cases args; simp_all
  obtain ⟨x0, o0⟩ := open_M fs24 un3 un22 fs44 un4 un42 un59 (by kernel_rfl) (by kernel_rfl) (by kernel_rfl) (by kernel_rfl) (by kernel_rfl) (by kernel_rfl) (by kernel_rfl) (hval 0 24 v0 rfl rfl) h0 (fun x hx => hlt x (by simp [hx]))
  refine ⟨_, ?_, c_ZcharAdjugates x0.1 x0.2.1 x0.2.2⟩
  exact ⟨o0, trivial⟩
theorem zcharAdjugates_said : Rows.ZcharAdjugatesSaid :=
  OpenClaim.holds_of_wide 6 Try.f6 rfl rfl rfl rfl rfl rfl rfl ⟨rfl, rfl, rfl, rfl, rfl⟩ rfl rfl rfl rfl rfl (by kernel_rfl) Try.func6 (by kernel_rfl)
    (of_decide_eq_true (by kernel_rfl)) (by unfold Func.isWrapper; first | (rw [if_pos (by decide +kernel)]; kernel_rfl) | (rw [if_neg (by decide +kernel)]; exact ⟨rfl, rfl⟩))
    (fun os started H enc _ => lift_law (C := Try.checked) (s := Rows.zcharAdjugatesSpec) (by kernel_rfl) started (by kernel_rfl) Try.func6
      (ChangeSpec.witness6 (enc := enc) (C := Try.checked) false ⟨#[], #[.agg #[.int .i64 0, .int .i64 0, .slice none 0 0]], []⟩ 8 (by kernel_rfl) (by kernel_rfl) (by kernel_rfl) (by kernel_rfl))
      (by kernel_rfl) (by kernel_rfl) rfl rfl un4 (fun ds h => by match ds, h with | [d0], _ => rfl) opens_ZcharAdjugates)
#print axioms zcharAdjugates_said
end Go.Proofs.Ytgkbekcpmbjbdaa
