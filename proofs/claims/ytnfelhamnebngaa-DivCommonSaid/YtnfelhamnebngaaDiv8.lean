/- Contracts: words held against words. -/
import Derived.Test.YtnfelhamnebngaaDiv7
namespace Go.Proofs.Ytnfelhamnebngaa
open Go.En Go.RowKit
set_option linter.unusedVariables false
set_option maxRecDepth 10000
open Go.Nt
theorem ref01_Same {xs ys : List Nat} : Ctr Try.prog 47 [isWords xs, isWords ys] (isB (decide (xs = ys))) := by
  refine Ctr.intro Try.func47 rfl (by kernel_rfl) Try.ntmps47 rfl fun w0 F0 => ?_
  refine Tri.cv (Cv.wk (.cons (t := 0) (Has.t rfl) (.cons (t := 1) (Has.t rfl) .nil))) ?_
  refine Tri.fact (Has.lenLt (Has.t (t := 0) rfl)) fun lt0 => ?_
  refine Tri.fact (Has.okW (Has.t (t := 0) rfl)) fun ok0 => ?_
  refine Tri.fact (Has.lenLt (Has.t (t := 1) rfl)) fun lt1 => ?_
  refine Tri.fact (Has.okW (Has.t (t := 1) rfl)) fun ok1 => ?_
  refine Tri.seq fun K1 hK1 => ?_
  refine Tri.region ?_
  refine st (OK1.as (Has.cB false)) rfl ?_
  refine nl ?_
  refine At.thn (hK1 _ _ ?_); clear hK1
  refine Tri.seq fun K2 hK2 => ?_
  refine Tri.seq fun K3 hK3 => ?_
  refine Tri.region ?_
  refine st (OK1.mv (Has.t rfl)) rfl ?_
  refine st (OK1.len sl22 (Has.t rfl)) rfl ?_
  refine st (OK1.mv (Has.t rfl)) rfl ?_
  refine st (OK1.len sl22 (Has.t rfl)) rfl ?_
  refine st (OK1.neI (Has.t rfl) (Has.t rfl)) rfl ?_
  refine nl ?_
  refine At.thn (hK3 _ _ ?_); clear hK3
  refine Tri.cond (Has.t rfl) (fun hc1 => ?_) (fun hc1 => ?_)
  · have hc1 := BP.t hc1
    have HN := hc1
    refine Tri.seq fun K4 hK4 => ?_
    refine Tri.region ?_
    refine st (OK1.as (Has.cB false)) rfl ?_
    refine nl ?_
    refine At.thn (hK4 _ _ ?_); clear hK4
    refine Tri.cv (Cv.wk (.cons (t := 0) (Has.t rfl) (.cons (t := 1) (Has.t rfl) (.cons (t := 4) (Has.t rfl) .nil)))) ?_
    refine Tri.ret ?_
    refine At.thr ?_
    refine rt1 (.inl rfl) Try.results47 rfl (.tmp (Has.t' rfl ?_) .nil)
    all_goals (exact isB_eq (decide_eq_false (fun e => HN (by rw [e]))).symm)
  · have hc1 := BP.f hc1
    refine Tri.skip ?_
    refine At.thn (hK2 _ _ ?_); clear hK2
    refine Tri.cv (Cv.wk (.cons (t := 0) (Has.t rfl) (.cons (t := 1) (Has.t rfl) (.cons (t := 4) (Has.t rfl) .nil)))) ?_
    refine Tri.seq fun K5 hK5 => ?_
    refine Tri.seq fun K6 hK6 => ?_
    refine Tri.region ?_
    refine st (OK1.as (Has.cI 0 rfl)) rfl ?_
    refine nl ?_
    refine At.thn (hK6 _ _ ?_); clear hK6
    refine Tri.block ?_
    refine Tri.loopF [0, 1] (fun (z : { i : Nat // i ≤ xs.length ∧ xs.take i = ys.take i }) => match z with | ⟨i, hI⟩ => [(5, isI (i : Int))]) (fun M => fun (z : { i : Nat // i ≤ xs.length ∧ xs.take i = ys.take i }) => match z with | ⟨i, hI⟩ => M) (fun (z : { i : Nat // i ≤ xs.length ∧ xs.take i = ys.take i }) => match z with | ⟨i, hI⟩ => xs.length - i) (⟨0, Nat.zero_le _, rfl⟩) (Cv.mem (.cons (t := 5) (Has.t' rfl ?_) (.cons (t := 0) (Has.t rfl) (.cons (t := 1) (Has.t rfl) .nil))) ?_) ?_
    · rfl
    · rfl
    rintro ⟨i, hi, he⟩ K7 hK7
    refine Tri.cv (Cv.wk (.cons (t := 5) (Has.t rfl) (.cons (t := 0) (Has.t rfl) (.cons (t := 1) (Has.t rfl) .nil)))) ?_
    refine Tri.seq fun K8 hK8 => ?_
    refine Tri.seq fun K9 hK9 => ?_
    refine Tri.region ?_
    refine st (OK1.mv (Has.t rfl)) rfl ?_
    refine st (OK1.mv (Has.t rfl)) rfl ?_
    refine st (OK1.len sl22 (Has.t rfl)) rfl ?_
    refine st (OK1.ltI (Has.t rfl) (Has.t rfl)) rfl ?_
    refine nl ?_
    refine At.thn (hK9 _ _ ?_); clear hK9
    refine Tri.cond (Has.t rfl) (fun hc2 => ?_) (fun hc2 => ?_)
    · have hc2 := BP.t hc2
      refine Tri.skip ?_
      refine At.thn (hK8 _ _ ?_); clear hK8
      refine Tri.seq fun K10 hK10 => ?_
      refine Tri.block ?_
      refine Tri.seq fun K11 hK11 => ?_
      refine Tri.dr ?_
      refine DrG.st (i := 0) [] rfl rfl rfl (by kernel_rfl) (OKG.o rfl (OK1.mv (Has.t rfl))) ?_
      refine DrG.st (i := 1) [] rfl rfl rfl (by kernel_rfl) (OKG.o rfl (OK1.mv (Has.t rfl))) ?_
      refine DrG.st (i := 2) [17, 18] rfl rfl rfl (by kernel_rfl) (OKG.o rfl (OK1.ixP sl22 ty27 (Has.t rfl) (Has.t rfl) ⟨by omega, by omega⟩ (getD_some (d := 0) (by first | omega | (simp only [Int.toNat_natCast, List.length_set]; omega))))) ?_
      refine DrG.st (i := 3) [19] rfl rfl rfl (by kernel_rfl) (OKG.o rfl (OK1.loadP1 (Has.t rfl) ty27)) ?_
      refine DrG.st (i := 4) [] rfl rfl rfl (by kernel_rfl) (OKG.o rfl (OK1.mv (Has.t rfl))) ?_
      refine DrG.st (i := 5) [] rfl rfl rfl (by kernel_rfl) (OKG.o rfl (OK1.mv (Has.t rfl))) ?_
      refine DrG.st (i := 6) [21, 22] rfl rfl rfl (by kernel_rfl) (OKG.o rfl (OK1.ixP sl22 ty27 (Has.t rfl) (Has.t rfl) ⟨by omega, by omega⟩ (getD_some (d := 0) (by first | omega | (simp only [Int.toNat_natCast, List.length_set]; omega))))) ?_
      refine DrG.st (i := 7) [23] rfl rfl rfl (by kernel_rfl) (OKG.o rfl (OK1.loadP1 (Has.t rfl) ty27)) ?_
      refine DrG.fin (n := 8) mixed (by kernel_rfl) (by kernel_rfl) (by kernel_rfl) ?_
      refine Ops.cv (Cv.wk (.cons (t := 0) (Has.t rfl) (.cons (t := 1) (Has.t rfl) (.cons (t := 5) (Has.t rfl) (.cons (t := 11) (Has.t rfl) (.cons (t := 12) (Has.t rfl) (.cons (t := 13) (Has.t rfl) (.cons (t := 14) (Has.t rfl) (.cons (t := 17) (Has.t rfl) (.cons (t := 18) (Has.t rfl) (.cons (t := 19) (Has.t rfl) (.cons (t := 20) (Has.t rfl) (.cons (t := 21) (Has.t rfl) (.cons (t := 22) (Has.t rfl) (.cons (t := 23) (Has.t rfl) (.cons (t := 24) (Has.t rfl) .nil)))))))))))))))) ?_
      refine st (OK1.neU (Has.t rfl) (Has.t rfl)) rfl ?_
      refine nl ?_
      refine At.thn (hK11 _ _ ?_); clear hK11
      refine Tri.cond (Has.t rfl) (fun hc3 => ?_) (fun hc3 => ?_)
      · have hc3 := BP.t hc3
        have HN := hc3
        refine Tri.seq fun K12 hK12 => ?_
        refine Tri.region ?_
        refine st (OK1.as (Has.cB false)) rfl ?_
        refine nl ?_
        refine At.thn (hK12 _ _ ?_); clear hK12
        refine Tri.ret ?_
        refine At.blr ?_
        refine At.thr ?_
        refine At.thr ?_
        refine At.blr ?_
        refine At.thr ?_
        refine rt1 (.inl rfl) Try.results47 rfl (.tmp (Has.t' rfl ?_) .nil)
        all_goals (exact isB_eq (decide_eq_false (fun e => HN (by rw [e]))).symm)
      · have hc3 := BP.f hc3
        have HE := hc3
        refine Tri.skip ?_
        refine At.bln ?_
        refine At.thn (hK10 _ _ ?_); clear hK10
        refine Tri.region ?_
        refine st (OK1.mv (Has.t rfl)) rfl ?_
        refine st (OK1.addI (Has.t rfl) (Has.cI 1 rfl) (by first | omega | assumption) (by first | omega | assumption)) rfl ?_
        refine st (OK1.as (Has.t rfl)) rfl ?_
        refine nl ?_
        refine At.thn ?_
        refine hK7 (⟨i + 1, by omega, same_step (by omega) (by omega) he HE⟩) _ _ ?_ (Cv.mem (.cons (t := 5) (Has.t' rfl ?_) (.cons (t := 0) (Has.t rfl) (.cons (t := 1) (Has.t rfl) .nil))) ?_)
        · show xs.length - (i + 1) < xs.length - i; omega
        · rfl
        · rfl
    · have hc2 := BP.f hc2
      refine Tri.exit ?_
      refine At.the ?_
      refine At.the ?_
      refine At.blh ?_
      refine At.thn (hK5 _ _ ?_); clear hK5
      refine Tri.cv (Cv.wk .nil) ?_
      refine Tri.seq fun K13 hK13 => ?_
      refine Tri.region ?_
      refine st (OK1.as (Has.cB true)) rfl ?_
      refine nl ?_
      refine At.thn (hK13 _ _ ?_); clear hK13
      refine Tri.ret ?_
      refine rt1 (.inl rfl) Try.results47 rfl (.tmp (Has.t' rfl ?_) .nil)
      all_goals (exact isB_eq (decide_eq_true (same_end (by omega) (by omega) he)).symm)

theorem law03_awake  : Ctr Try.prog 43 [] (isB true) := by
  refine Ctr.intro Try.func43 rfl (by kernel_rfl) Try.ntmps43 rfl fun w0 F0 => ?_
  refine Tri.cv (Cv.wk .nil) ?_
  refine Tri.seq fun K1 hK1 => ?_
  refine Tri.region ?_
  refine st (OK1.as (Has.cB false)) rfl ?_
  refine nl ?_
  refine At.thn (hK1 _ _ ?_); clear hK1
  refine Tri.seq fun K2 hK2 => ?_
  refine Tri.region ?_
  refine st (OK1.call (nat_Of) (.cons (Has.cU 100 rfl) .nil)) rfl ?_
  refine st (OK1.call (nat_Of) (.cons (Has.cU 7 rfl) .nil)) rfl ?_
  refine st (OK1.eq (OK1.call (div_DivMod (by simp only [val_words]; exact Nat.lt_of_le_of_lt (nw_le (k := 1) (by decide)) (by decide)) (by simp only [val_words]; exact Nat.lt_of_le_of_lt (nw_le (k := 1) (by decide)) (by decide))) (.cons (Has.t rfl) (.cons (Has.t rfl) .nil))) (by first | (simp only [val_words]; rfl) | rfl)) rfl ?_
  refine st (OK1.mv (Has.t rfl)) rfl ?_
  refine st (OK1.ext (Has.t rfl) rfl) rfl ?_
  refine st (OK1.ext (Has.t rfl) rfl) rfl ?_
  refine st (OK1.ext (Has.t rfl) rfl) rfl ?_
  refine st (OK1.as (Has.t rfl)) rfl ?_
  refine st (OK1.as (Has.t rfl)) rfl ?_
  refine st (OK1.as (Has.t rfl)) rfl ?_
  refine nl ?_
  refine At.thn (hK2 _ _ ?_); clear hK2
  refine Tri.cv (Cv.wk (.cons (t := 0) (Has.t rfl) (.cons (t := 1) (Has.t rfl) (.cons (t := 2) (Has.t rfl) (.cons (t := 3) (Has.t rfl) .nil))))) ?_
  refine Tri.seq fun K3 hK3 => ?_
  refine Tri.region ?_
  refine st (OK1.mv (Has.t rfl)) rfl ?_
  refine st (OK1.mv (Has.t rfl)) rfl ?_
  refine stT rfl rfl (fun hg => have hg' := BP.t hg; OK1.mv (Has.t rfl)) rfl ?_
  refine stT rfl rfl (fun hg => have hg' := BP.t hg; OK1.call (nat_Of) (.cons (Has.cU 14 rfl) .nil)) rfl ?_
  refine stT rfl rfl (fun hg => have hg' := BP.t hg; OK1.eq (OK1.call (nat_Cmp) (.cons (Has.g rfl hg) (.cons (Has.g rfl hg) .nil))) (by first | (simp only [val_words]; rfl) | rfl)) rfl ?_
  refine stT rfl rfl (fun hg => have hg' := BP.t hg; OK1.eqI (Has.g rfl hg) (Has.cI 0 rfl)) rfl ?_
  refine st (OK1.pickAnd (Has.t rfl) (fun h => Has.g rfl h)) rfl ?_
  refine st (OK1.mv (Has.t rfl)) rfl ?_
  refine stT rfl rfl (fun hg => have hg' := BP.t hg; OK1.mv (Has.t rfl)) rfl ?_
  refine stT rfl rfl (fun hg => have hg' := BP.t hg; OK1.call (nat_Of) (.cons (Has.cU 2 rfl) .nil)) rfl ?_
  refine stT rfl rfl (fun hg => have hg' := BP.t hg; OK1.eq (OK1.call (nat_Cmp) (.cons (Has.g rfl hg) (.cons (Has.g rfl hg) .nil))) (by first | (simp only [val_words]; rfl) | rfl)) rfl ?_
  refine stT rfl rfl (fun hg => have hg' := BP.t hg; OK1.eqI (Has.g rfl hg) (Has.cI 0 rfl)) rfl ?_
  refine st (OK1.pickAnd (Has.t rfl) (fun h => Has.g rfl h)) rfl ?_
  refine st (OK1.as (Has.t rfl)) rfl ?_
  refine nl ?_
  refine At.thn (hK3 _ _ ?_); clear hK3
  refine Tri.cv (Cv.wk (.cons (t := 0) (Has.t rfl) .nil)) ?_
  refine Tri.ret ?_
  refine rt1 (.inl rfl) Try.results43 rfl (.tmp (Has.t' rfl ?_) .nil)
  all_goals (exact isB_eq (by decide))
end Go.Proofs.Ytnfelhamnebngaa
