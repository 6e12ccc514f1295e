/- Laws of layer 3 on the greatest common divisor and the reference, as contracts. -/
import Derived.Test.YtnfelhamnebngaaL3a
import Derived.Test.YtnfelhamnebngaaRef4
namespace Go.Proofs.Ytnfelhamnebngaa
open Go.En Go.RowKit
set_option linter.unusedVariables false
set_option maxRecDepth 10000
open Go.Nt
theorem nil_nw : (List.length (words (val []))) = 0 := by show (List.length (words 0)) = 0; rw [words_zero]; rfl
theorem nw_mul (a b : Nat) : (List.length (words (a * b))) ≤ (List.length (words a)) + (List.length (words b)) := nw_le (by rw [Nat.pow_add]; exact Nat.mul_lt_mul_of_lt_of_lt (nw_lt a) (nw_lt b))
theorem nd_val {xs : List Nat} (h : Ok xs) : (List.length (digs (val xs))) ≤ 4 * xs.length := d_nw_le (by rw [Nat.pow_mul, ← D4]; exact val_lt h)
theorem lcm_le (a b : Nat) : Nat.lcm a b ≤ a * b := Nat.div_le_self _ _
theorem if_mod_le (a b : Nat) : (if b = 0 then 0 else a % b) ≤ a := by
  split
  · exact Nat.zero_le _
  · exact Nat.mod_le _ _
theorem if_div_le (a b : Nat) : (if b ≠ 0 ∧ a % b = 0 then a / b else 0) ≤ a := by
  split
  · exact Nat.div_le_self _ _
  · exact Nat.zero_le _
theorem law_common (a b c : Nat) : (decide (cmpN (Nat.gcd (a * c) (b * c)) (Nat.gcd a b * c) = 0) && decide (cmpN (Nat.gcd b a) (Nat.gcd a b) = 0) && decide (cmpN (Nat.gcd a (val [])) a = 0)) = true := by
  have e : cmpN (Nat.gcd a (val [])) a = 0 := cmpN_eq0 (Nat.gcd_zero_right a)
  rw [decide_eq_true (cmpN_eq0 (Nat.gcd_mul_right a c b)), decide_eq_true (cmpN_eq0 (Nat.gcd_comm b a)), decide_eq_true e]; rfl
theorem law_div0 {a b : Nat} (h : b = 0) : (!decide (b ≠ 0) && !decide (b ≠ 0) && !decide (b ≠ 0 ∧ a % b = 0) &&
      decide ((((List.length (words (a / b))) : Nat) : Int) + (((List.length (words (if b = 0 then 0 else a % b))) : Nat) : Int) + (((List.length (words (if b = 0 then 0 else a % b))) : Nat) : Int) + (((List.length (words (if b ≠ 0 ∧ a % b = 0 then a / b else 0))) : Nat) : Int) = 0)) = true := by
  subst h; simp [words_zero]
theorem law_div1 {a b : Nat} (h : ¬ b = 0) : (decide (b ≠ 0 ∧ a % b = 0) && decide (words (if b ≠ 0 ∧ a % b = 0 then a / b else 0) = words (a / b)) ||
      !decide (b ≠ 0 ∧ a % b = 0) && decide ((((List.length (words (if b ≠ 0 ∧ a % b = 0 then a / b else 0))) : Nat) : Int) = 0)) = true := by
  by_cases h2 : a % b = 0
  · rw [decide_eq_true (show b ≠ 0 ∧ a % b = 0 from ⟨h, h2⟩), if_pos ⟨h, h2⟩]; simp
  · rw [decide_eq_false (show ¬ (b ≠ 0 ∧ a % b = 0) from fun e => h2 e.2), if_neg (fun e => h2 e.2), words_zero]; rfl
theorem law_gcd (a b c : Nat) : ((!(!decide (c = 0) && decide (c ∣ a) && decide (c ∣ b)) || decide (c ∣ Nat.gcd a b)) && decide (Nat.gcd a b = 0) == (decide (a = 0) && decide (b = 0))) = true := by
  rw [Bool.eq_iff_iff]
  simp only [Nat.dvd_gcd_iff, Nat.gcd_eq_zero_iff]
  by_cases h0 : c = 0 <;> by_cases h1 : c ∣ a <;> by_cases h2 : c ∣ b <;> by_cases h3 : a = 0 <;> by_cases h4 : b = 0 <;> simp_all


theorem c_DivCommon (xs ys zs : List Nat) : Ctr Try.prog 11 [isWords xs, isWords ys, isWords zs] (isB true) := by
  refine Ctr.intro Try.func11 rfl (by kernel_rfl) Try.ntmps11 rfl fun w0 F0 => ?_
  refine Tri.cv (Cv.wk (.cons (t := 0) (Has.t rfl) (.cons (t := 1) (Has.t rfl) (.cons (t := 2) (Has.t rfl) .nil)))) ?_
  refine Tri.fact (Has.lenLt (Has.t (t := 0) rfl)) fun lt0 => ?_
  refine Tri.fact (Has.okW (Has.t (t := 0) rfl)) fun ok0 => ?_
  refine Tri.fact (Has.lenLt (Has.t (t := 1) rfl)) fun lt1 => ?_
  refine Tri.fact (Has.okW (Has.t (t := 1) rfl)) fun ok1 => ?_
  refine Tri.fact (Has.lenLt (Has.t (t := 2) rfl)) fun lt2 => ?_
  refine Tri.fact (Has.okW (Has.t (t := 2) rfl)) fun ok2 => ?_
  have n0 : (List.length (words (val xs))) ≤ xs.length := nw_val ok0
  have n1 : (List.length (words (val ys))) ≤ ys.length := nw_val ok1
  have n2 : (List.length (words (val zs))) ≤ zs.length := nw_val ok2
  refine Tri.seq fun K1 hK1 => ?_
  refine Tri.region ?_
  refine st (OK1.as (Has.cB false)) rfl ?_
  refine nl ?_
  refine At.thn (hK1 _ _ ?_); clear hK1
  refine Tri.seq fun K2 hK2 => ?_
  refine Tri.seq fun K3 hK3 => ?_
  refine Tri.region ?_
  refine st (OK1.call (law03_awake) .nil) rfl ?_
  refine st (OK1.not (Has.t rfl)) rfl ?_
  refine st (OK1.mv (Has.t rfl)) rfl ?_
  refine stF rfl rfl (fun hg => have hg' := BP.t hg; OK1.mv (Has.t rfl)) rfl ?_
  refine stF rfl rfl (fun hg => have hg' := BP.t hg; OK1.len sl53 (Has.g rfl hg)) rfl ?_
  refine stF rfl rfl (fun hg => have hg' := BP.t hg; OK1.gtI (Has.g rfl hg) (Has.cI 6 rfl)) rfl ?_
  refine st (OK1.pickOr (Has.t rfl) (fun h => Has.g rfl (ng h))) rfl ?_
  refine st (OK1.mv (Has.t rfl)) rfl ?_
  refine stF rfl rfl (fun hg => have hg' := BP.t hg; OK1.mv (Has.t rfl)) rfl ?_
  refine stF rfl rfl (fun hg => have hg' := BP.t hg; OK1.len sl53 (Has.g rfl hg)) rfl ?_
  refine stF rfl rfl (fun hg => have hg' := BP.t hg; OK1.gtI (Has.g rfl hg) (Has.cI 6 rfl)) rfl ?_
  refine st (OK1.pickOr (Has.t rfl) (fun h => Has.g rfl (ng h))) rfl ?_
  refine st (OK1.mv (Has.t rfl)) rfl ?_
  refine stF rfl rfl (fun hg => have hg' := BP.t hg; OK1.mv (Has.t rfl)) rfl ?_
  refine stF rfl rfl (fun hg => have hg' := BP.t hg; OK1.len sl53 (Has.g rfl hg)) rfl ?_
  refine stF rfl rfl (fun hg => have hg' := BP.t hg; OK1.gtI (Has.g rfl hg) (Has.cI 6 rfl)) rfl ?_
  refine st (OK1.pickOr (Has.t rfl) (fun h => Has.g rfl (ng h))) rfl ?_
  refine nl ?_
  refine At.thn (hK3 _ _ ?_); clear hK3
  refine Tri.cv (Cv.wk (.cons (t := 0) (Has.t rfl) (.cons (t := 1) (Has.t rfl) (.cons (t := 2) (Has.t rfl) (.cons (t := 6) (Has.t rfl) (.cons (t := 24) (Has.t rfl) .nil)))))) ?_
  refine Tri.cond (Has.t rfl) (fun hc1 => ?_) (fun hc1 => ?_)
  · have hc1 := BP.t hc1
    refine Tri.seq fun K4 hK4 => ?_
    refine Tri.region ?_
    refine st (OK1.call (law03_awake) .nil) rfl ?_
    refine st (OK1.as (Has.t rfl)) rfl ?_
    refine nl ?_
    refine At.thn (hK4 _ _ ?_); clear hK4
    refine Tri.ret ?_
    refine At.thr ?_
    refine rt1 (.inl rfl) Try.results11 rfl (.tmp (Has.t' rfl ?_) .nil)
    all_goals (rfl)
  · have hc1 := BP.f hc1
    have m1 := nw_mul (val xs) (val zs)
    have m2 := nw_mul (val ys) (val zs)
    have g1 := Nat.le_trans (nw_mono (gcd_le_max (val xs) (val ys))) (nw_max _ _)
    have m3 := nw_mul (Nat.gcd (val xs) (val ys)) (val zs)
    refine Tri.skip ?_
    refine At.thn (hK2 _ _ ?_); clear hK2
    refine Tri.seq fun K5 hK5 => ?_
    refine Tri.region ?_
    refine st (OK1.mv (Has.t rfl)) rfl ?_
    refine st (OK1.mv (Has.t rfl)) rfl ?_
    refine st (OK1.call (div_Gcd (by first | with_reducible assumption | omega | (simp only [val_words]; omega) | (rw [nil_nw]; decide) | (simp only [val_words]; exact Nat.lt_of_le_of_lt (nw_mono (gcd_le_max _ _)) (Nat.lt_of_le_of_lt (nw_max _ _) (by omega)))) (by first | with_reducible assumption | omega | (simp only [val_words]; omega) | (rw [nil_nw]; decide) | (simp only [val_words]; exact Nat.lt_of_le_of_lt (nw_mono (gcd_le_max _ _)) (Nat.lt_of_le_of_lt (nw_max _ _) (by omega))))) (.cons (Has.t rfl) (.cons (Has.t rfl) .nil))) rfl ?_
    refine st (OK1.as (Has.t rfl)) rfl ?_
    refine nl ?_
    refine At.thn (hK5 _ _ ?_); clear hK5
    refine Tri.seq fun K6 hK6 => ?_
    refine Tri.region ?_
    refine st (OK1.mv (Has.t rfl)) rfl ?_
    refine st (OK1.mv (Has.t rfl)) rfl ?_
    refine st (OK1.call (nat_Mul (by first | with_reducible assumption | omega | (simp only [val_words]; omega) | (rw [nil_nw]; decide) | (simp only [val_words]; exact Nat.lt_of_le_of_lt (nw_mono (gcd_le_max _ _)) (Nat.lt_of_le_of_lt (nw_max _ _) (by omega))))) (.cons (Has.t rfl) (.cons (Has.t rfl) .nil))) rfl ?_
    refine st (OK1.mv (Has.t rfl)) rfl ?_
    refine st (OK1.mv (Has.t rfl)) rfl ?_
    refine st (OK1.call (nat_Mul (by first | with_reducible assumption | omega | (simp only [val_words]; omega) | (rw [nil_nw]; decide) | (simp only [val_words]; exact Nat.lt_of_le_of_lt (nw_mono (gcd_le_max _ _)) (Nat.lt_of_le_of_lt (nw_max _ _) (by omega))))) (.cons (Has.t rfl) (.cons (Has.t rfl) .nil))) rfl ?_
    refine st (OK1.eq (OK1.call (div_Gcd (by first | with_reducible assumption | omega | (simp only [val_words]; omega) | (rw [nil_nw]; decide) | (simp only [val_words]; exact Nat.lt_of_le_of_lt (nw_mono (gcd_le_max _ _)) (Nat.lt_of_le_of_lt (nw_max _ _) (by omega)))) (by first | with_reducible assumption | omega | (simp only [val_words]; omega) | (rw [nil_nw]; decide) | (simp only [val_words]; exact Nat.lt_of_le_of_lt (nw_mono (gcd_le_max _ _)) (Nat.lt_of_le_of_lt (nw_max _ _) (by omega))))) (.cons (Has.t rfl) (.cons (Has.t rfl) .nil))) (by first | (simp only [val_words]; rfl) | rfl)) rfl ?_
    refine st (OK1.mv (Has.t rfl)) rfl ?_
    refine st (OK1.mv (Has.t rfl)) rfl ?_
    refine st (OK1.eq (OK1.call (nat_Mul (by first | with_reducible assumption | omega | (simp only [val_words]; omega) | (rw [nil_nw]; decide) | (simp only [val_words]; exact Nat.lt_of_le_of_lt (nw_mono (gcd_le_max _ _)) (Nat.lt_of_le_of_lt (nw_max _ _) (by omega))))) (.cons (Has.t rfl) (.cons (Has.t rfl) .nil))) (by first | (simp only [val_words]; rfl) | rfl)) rfl ?_
    refine st (OK1.eq (OK1.call (nat_Cmp) (.cons (Has.t rfl) (.cons (Has.t rfl) .nil))) (by first | (simp only [val_words]; rfl) | rfl)) rfl ?_
    refine st (OK1.eqI (Has.t rfl) (Has.cI 0 rfl)) rfl ?_
    refine st (OK1.mv (Has.t rfl)) rfl ?_
    refine stT rfl rfl (fun hg => have hg' := BP.t hg; OK1.mv (Has.t rfl)) rfl ?_
    refine stT rfl rfl (fun hg => have hg' := BP.t hg; OK1.mv (Has.t rfl)) rfl ?_
    refine stT rfl rfl (fun hg => have hg' := BP.t hg; OK1.call (div_Gcd (by first | with_reducible assumption | omega | (simp only [val_words]; omega) | (rw [nil_nw]; decide) | (simp only [val_words]; exact Nat.lt_of_le_of_lt (nw_mono (gcd_le_max _ _)) (Nat.lt_of_le_of_lt (nw_max _ _) (by omega)))) (by first | with_reducible assumption | omega | (simp only [val_words]; omega) | (rw [nil_nw]; decide) | (simp only [val_words]; exact Nat.lt_of_le_of_lt (nw_mono (gcd_le_max _ _)) (Nat.lt_of_le_of_lt (nw_max _ _) (by omega))))) (.cons (Has.g rfl hg) (.cons (Has.g rfl hg) .nil))) rfl ?_
    refine stT rfl rfl (fun hg => have hg' := BP.t hg; OK1.mv (Has.t rfl)) rfl ?_
    refine stT rfl rfl (fun hg => have hg' := BP.t hg; OK1.eq (OK1.call (nat_Cmp) (.cons (Has.g rfl hg) (.cons (Has.g rfl hg) .nil))) (by first | (simp only [val_words]; rfl) | rfl)) rfl ?_
    refine stT rfl rfl (fun hg => have hg' := BP.t hg; OK1.eqI (Has.g rfl hg) (Has.cI 0 rfl)) rfl ?_
    refine st (OK1.pickAnd (Has.t rfl) (fun h => Has.g rfl h)) rfl ?_
    refine st (OK1.mv (Has.t rfl)) rfl ?_
    refine stT rfl rfl (fun hg => have hg' := BP.t hg; OK1.mv (Has.t rfl)) rfl ?_
    refine stT rfl rfl (fun hg => have hg' := BP.t hg; OK1.call (div_Gcd (by first | with_reducible assumption | omega | (simp only [val_words]; omega) | (rw [nil_nw]; decide) | (simp only [val_words]; exact Nat.lt_of_le_of_lt (nw_mono (gcd_le_max _ _)) (Nat.lt_of_le_of_lt (nw_max _ _) (by omega)))) (by first | with_reducible assumption | omega | (simp only [val_words]; omega) | (rw [nil_nw]; decide) | (simp only [val_words]; exact Nat.lt_of_le_of_lt (nw_mono (gcd_le_max _ _)) (Nat.lt_of_le_of_lt (nw_max _ _) (by omega))))) (.cons (Has.g rfl hg) (.cons (Has.cW (f := isU)) .nil))) rfl ?_
    refine stT rfl rfl (fun hg => have hg' := BP.t hg; OK1.mv (Has.t rfl)) rfl ?_
    refine stT rfl rfl (fun hg => have hg' := BP.t hg; OK1.eq (OK1.call (nat_Cmp) (.cons (Has.g rfl hg) (.cons (Has.g rfl hg) .nil))) (by first | (simp only [val_words]; rfl) | rfl)) rfl ?_
    refine stT rfl rfl (fun hg => have hg' := BP.t hg; OK1.eqI (Has.g rfl hg) (Has.cI 0 rfl)) rfl ?_
    refine st (OK1.pickAnd (Has.t rfl) (fun h => Has.g rfl h)) rfl ?_
    refine st (OK1.as (Has.t rfl)) rfl ?_
    refine nl ?_
    refine At.thn (hK6 _ _ ?_); clear hK6
    refine Tri.cv (Cv.wk (.cons (t := 6) (Has.t rfl) .nil)) ?_
    refine Tri.ret ?_
    refine rt1 (.inl rfl) Try.results11 rfl (.tmp (Has.t' rfl ?_) .nil)
    all_goals (exact isB_eq (law_common _ _ _))

theorem c_DivDivides (xs ys : List Nat) : Ctr Try.prog 9 [isWords xs, isWords ys] (isB true) := by
  refine Ctr.intro Try.func9 rfl (by kernel_rfl) Try.ntmps9 rfl fun w0 F0 => ?_
  refine Tri.cv (Cv.wk (.cons (t := 0) (Has.t rfl) (.cons (t := 1) (Has.t rfl) .nil))) ?_
  refine Tri.fact (Has.lenLt (Has.t (t := 0) rfl)) fun lt0 => ?_
  refine Tri.fact (Has.okW (Has.t (t := 0) rfl)) fun ok0 => ?_
  refine Tri.fact (Has.lenLt (Has.t (t := 1) rfl)) fun lt1 => ?_
  refine Tri.fact (Has.okW (Has.t (t := 1) rfl)) fun ok1 => ?_
  have n0 : (List.length (words (val xs))) ≤ xs.length := nw_val ok0
  have n1 : (List.length (words (val ys))) ≤ ys.length := nw_val ok1
  have d0 := nd_val ok0
  have d1 := nd_val ok1
  refine Tri.seq fun K1 hK1 => ?_
  refine Tri.region ?_
  refine st (OK1.as (Has.cB false)) rfl ?_
  refine nl ?_
  refine At.thn (hK1 _ _ ?_); clear hK1
  refine Tri.seq fun K2 hK2 => ?_
  refine Tri.seq fun K3 hK3 => ?_
  refine Tri.region ?_
  refine st (OK1.call (law03_awake) .nil) rfl ?_
  refine st (OK1.not (Has.t rfl)) rfl ?_
  refine st (OK1.mv (Has.t rfl)) rfl ?_
  refine stF rfl rfl (fun hg => have hg' := BP.t hg; OK1.mv (Has.t rfl)) rfl ?_
  refine stF rfl rfl (fun hg => have hg' := BP.t hg; OK1.len sl53 (Has.g rfl hg)) rfl ?_
  refine stF rfl rfl (fun hg => have hg' := BP.t hg; OK1.gtI (Has.g rfl hg) (Has.cI 12 rfl)) rfl ?_
  refine st (OK1.pickOr (Has.t rfl) (fun h => Has.g rfl (ng h))) rfl ?_
  refine st (OK1.mv (Has.t rfl)) rfl ?_
  refine stF rfl rfl (fun hg => have hg' := BP.t hg; OK1.mv (Has.t rfl)) rfl ?_
  refine stF rfl rfl (fun hg => have hg' := BP.t hg; OK1.len sl53 (Has.g rfl hg)) rfl ?_
  refine stF rfl rfl (fun hg => have hg' := BP.t hg; OK1.gtI (Has.g rfl hg) (Has.cI 12 rfl)) rfl ?_
  refine st (OK1.pickOr (Has.t rfl) (fun h => Has.g rfl (ng h))) rfl ?_
  refine nl ?_
  refine At.thn (hK3 _ _ ?_); clear hK3
  refine Tri.cv (Cv.wk (.cons (t := 0) (Has.t rfl) (.cons (t := 1) (Has.t rfl) (.cons (t := 4) (Has.t rfl) (.cons (t := 27) (Has.t rfl) .nil))))) ?_
  refine Tri.cond (Has.t rfl) (fun hc1 => ?_) (fun hc1 => ?_)
  · have hc1 := BP.t hc1
    refine Tri.seq fun K4 hK4 => ?_
    refine Tri.region ?_
    refine st (OK1.call (law03_awake) .nil) rfl ?_
    refine st (OK1.as (Has.t rfl)) rfl ?_
    refine nl ?_
    refine At.thn (hK4 _ _ ?_); clear hK4
    refine Tri.ret ?_
    refine At.thr ?_
    refine rt1 (.inl rfl) Try.results9 rfl (.tmp (Has.t' rfl ?_) .nil)
    all_goals (rfl)
  · have hc1 := BP.f hc1
    have hd1 : (List.length (digs (val xs / val ys))) ≤ (List.length (digs (val xs))) := d_nw_mono (Nat.div_le_self _ _)
    have hd2 : (List.length (digs (val xs % val ys))) ≤ (List.length (digs (val xs))) := d_nw_mono (Nat.mod_le _ _)
    have hw1 : (List.length (words (val xs / val ys))) ≤ (List.length (words (val xs))) := nw_mono (Nat.div_le_self _ _)
    have hw2 : (List.length (words (if val ys = 0 then 0 else val xs % val ys))) ≤ (List.length (words (val xs))) := nw_mono (if_mod_le _ _)
    have hw3 : (List.length (words (if val ys ≠ 0 ∧ val xs % val ys = 0 then val xs / val ys else 0))) ≤ (List.length (words (val xs))) := nw_mono (if_div_le _ _)
    refine Tri.skip ?_
    refine At.thn (hK2 _ _ ?_); clear hK2
    refine Tri.seq fun K5 hK5 => ?_
    refine Tri.region ?_
    refine st (OK1.mv (Has.t rfl)) rfl ?_
    refine st (OK1.call (ref01_From (by first | with_reducible assumption | omega | (simp only [val_words]; omega))) (.cons (Has.t rfl) .nil)) rfl ?_
    refine st (OK1.mv (Has.t rfl)) rfl ?_
    refine st (OK1.call (ref01_From (by first | with_reducible assumption | omega | (simp only [val_words]; omega))) (.cons (Has.t rfl) .nil)) rfl ?_
    refine st (OK1.as (Has.t rfl)) rfl ?_
    refine st (OK1.as (Has.t rfl)) rfl ?_
    refine nl ?_
    refine At.thn (hK5 _ _ ?_); clear hK5
    refine Tri.cv (Cv.wk (.cons (t := 0) (Has.t rfl) (.cons (t := 1) (Has.t rfl) (.cons (t := 4) (Has.t rfl) (.cons (t := 5) (Has.t rfl) (.cons (t := 6) (Has.t rfl) .nil)))))) ?_
    refine Tri.seq fun K6 hK6 => ?_
    refine Tri.region ?_
    refine st (OK1.mv (Has.t rfl)) rfl ?_
    refine st (OK1.mv (Has.t rfl)) rfl ?_
    refine st (OK1.call (div_DivMod (by first | with_reducible assumption | omega | (simp only [val_words]; omega)) (by first | with_reducible assumption | omega | (simp only [val_words]; omega))) (.cons (Has.t rfl) (.cons (Has.t rfl) .nil))) rfl ?_
    refine st (OK1.mv (Has.t rfl)) rfl ?_
    refine st (OK1.ext (Has.t rfl) rfl) rfl ?_
    refine st (OK1.ext (Has.t rfl) rfl) rfl ?_
    refine st (OK1.ext (Has.t rfl) rfl) rfl ?_
    refine st (OK1.as (Has.t rfl)) rfl ?_
    refine st (OK1.as (Has.t rfl)) rfl ?_
    refine st (OK1.as (Has.t rfl)) rfl ?_
    refine nl ?_
    refine At.thn (hK6 _ _ ?_); clear hK6
    refine Tri.cv (Cv.wk (.cons (t := 0) (Has.t rfl) (.cons (t := 1) (Has.t rfl) (.cons (t := 4) (Has.t rfl) (.cons (t := 5) (Has.t rfl) (.cons (t := 6) (Has.t rfl) (.cons (t := 7) (Has.t rfl) (.cons (t := 8) (Has.t rfl) (.cons (t := 9) (Has.t rfl) .nil))))))))) ?_
    refine Tri.seq fun K7 hK7 => ?_
    refine Tri.region ?_
    refine st (OK1.mv (Has.t rfl)) rfl ?_
    refine st (OK1.mv (Has.t rfl)) rfl ?_
    refine st (OK1.call (div_Mod (by first | with_reducible assumption | omega | (simp only [val_words]; omega)) (by first | with_reducible assumption | omega | (simp only [val_words]; omega))) (.cons (Has.t rfl) (.cons (Has.t rfl) .nil))) rfl ?_
    refine st (OK1.mv (Has.t rfl)) rfl ?_
    refine st (OK1.ext (Has.t rfl) rfl) rfl ?_
    refine st (OK1.ext (Has.t rfl) rfl) rfl ?_
    refine st (OK1.as (Has.t rfl)) rfl ?_
    refine st (OK1.as (Has.t rfl)) rfl ?_
    refine nl ?_
    refine At.thn (hK7 _ _ ?_); clear hK7
    refine Tri.cv (Cv.wk (.cons (t := 0) (Has.t rfl) (.cons (t := 1) (Has.t rfl) (.cons (t := 4) (Has.t rfl) (.cons (t := 5) (Has.t rfl) (.cons (t := 6) (Has.t rfl) (.cons (t := 7) (Has.t rfl) (.cons (t := 8) (Has.t rfl) (.cons (t := 9) (Has.t rfl) (.cons (t := 10) (Has.t rfl) (.cons (t := 11) (Has.t rfl) .nil))))))))))) ?_
    refine Tri.seq fun K8 hK8 => ?_
    refine Tri.region ?_
    refine st (OK1.mv (Has.t rfl)) rfl ?_
    refine st (OK1.mv (Has.t rfl)) rfl ?_
    refine st (OK1.call (div_Exact (by first | with_reducible assumption | omega | (simp only [val_words]; omega)) (by first | with_reducible assumption | omega | (simp only [val_words]; omega))) (.cons (Has.t rfl) (.cons (Has.t rfl) .nil))) rfl ?_
    refine st (OK1.mv (Has.t rfl)) rfl ?_
    refine st (OK1.ext (Has.t rfl) rfl) rfl ?_
    refine st (OK1.ext (Has.t rfl) rfl) rfl ?_
    refine st (OK1.as (Has.t rfl)) rfl ?_
    refine st (OK1.as (Has.t rfl)) rfl ?_
    refine nl ?_
    refine At.thn (hK8 _ _ ?_); clear hK8
    refine Tri.cv (Cv.wk (.cons (t := 4) (Has.t rfl) (.cons (t := 5) (Has.t rfl) (.cons (t := 6) (Has.t rfl) (.cons (t := 7) (Has.t rfl) (.cons (t := 8) (Has.t rfl) (.cons (t := 9) (Has.t rfl) (.cons (t := 10) (Has.t rfl) (.cons (t := 11) (Has.t rfl) (.cons (t := 12) (Has.t rfl) (.cons (t := 13) (Has.t rfl) .nil))))))))))) ?_
    refine Tri.seq fun K9 hK9 => ?_
    refine Tri.seq fun K10 hK10 => ?_
    refine Tri.region ?_
    refine st (OK1.mv (Has.t rfl)) rfl ?_
    refine st (OK1.call (ref03_Zero) (.cons (Has.t rfl) .nil)) rfl ?_
    refine nl ?_
    refine At.thn (hK10 _ _ ?_); clear hK10
    refine Tri.cond (Has.t rfl) (fun hc2 => ?_) (fun hc2 => ?_)
    · have hc2 := BP.t hc2
      have HB := hc2
      refine Tri.seq fun K11 hK11 => ?_
      refine Tri.region ?_
      refine st (OK1.mv (Has.t rfl)) rfl ?_
      refine st (OK1.not (Has.t rfl)) rfl ?_
      refine st (OK1.mv (Has.t rfl)) rfl ?_
      refine stT rfl rfl (fun hg => have hg' := BP.t hg; OK1.mv (Has.t rfl)) rfl ?_
      refine stT rfl rfl (fun hg => have hg' := BP.t hg; OK1.not (Has.g rfl hg)) rfl ?_
      refine st (OK1.pickAnd (Has.t rfl) (fun h => Has.g rfl h)) rfl ?_
      refine st (OK1.mv (Has.t rfl)) rfl ?_
      refine stT rfl rfl (fun hg => have hg' := BP.t hg; OK1.mv (Has.t rfl)) rfl ?_
      refine stT rfl rfl (fun hg => have hg' := BP.t hg; OK1.not (Has.g rfl hg)) rfl ?_
      refine st (OK1.pickAnd (Has.t rfl) (fun h => Has.g rfl h)) rfl ?_
      refine st (OK1.mv (Has.t rfl)) rfl ?_
      refine stT rfl rfl (fun hg => have hg' := BP.t hg; OK1.mv (Has.t rfl)) rfl ?_
      refine stT rfl rfl (fun hg => have hg' := BP.t hg; OK1.len sl53 (Has.g rfl hg)) rfl ?_
      refine stT rfl rfl (fun hg => have hg' := BP.t hg; OK1.mv (Has.t rfl)) rfl ?_
      refine stT rfl rfl (fun hg => have hg' := BP.t hg; OK1.len sl53 (Has.g rfl hg)) rfl ?_
      refine stT rfl rfl (fun hg => have hg' := BP.t hg; OK1.addI (Has.g rfl hg) (Has.g rfl hg) (by first | with_reducible assumption | omega | (simp only [val_words]; omega)) (by first | with_reducible assumption | omega | (simp only [val_words]; omega))) rfl ?_
      refine stT rfl rfl (fun hg => have hg' := BP.t hg; OK1.mv (Has.t rfl)) rfl ?_
      refine stT rfl rfl (fun hg => have hg' := BP.t hg; OK1.len sl53 (Has.g rfl hg)) rfl ?_
      refine stT rfl rfl (fun hg => have hg' := BP.t hg; OK1.addI (Has.g rfl hg) (Has.g rfl hg) (by first | with_reducible assumption | omega | (simp only [val_words]; omega)) (by first | with_reducible assumption | omega | (simp only [val_words]; omega))) rfl ?_
      refine stT rfl rfl (fun hg => have hg' := BP.t hg; OK1.mv (Has.t rfl)) rfl ?_
      refine stT rfl rfl (fun hg => have hg' := BP.t hg; OK1.len sl53 (Has.g rfl hg)) rfl ?_
      refine stT rfl rfl (fun hg => have hg' := BP.t hg; OK1.addI (Has.g rfl hg) (Has.g rfl hg) (by first | with_reducible assumption | omega | (simp only [val_words]; omega)) (by first | with_reducible assumption | omega | (simp only [val_words]; omega))) rfl ?_
      refine stT rfl rfl (fun hg => have hg' := BP.t hg; OK1.eqI (Has.g rfl hg) (Has.cI 0 rfl)) rfl ?_
      refine st (OK1.pickAnd (Has.t rfl) (fun h => Has.g rfl h)) rfl ?_
      refine st (OK1.as (Has.t rfl)) rfl ?_
      refine nl ?_
      refine At.thn (hK11 _ _ ?_); clear hK11
      refine Tri.cv (Cv.wk (.cons (t := 4) (Has.t rfl) (.cons (t := 5) (Has.t rfl) (.cons (t := 6) (Has.t rfl) (.cons (t := 7) (Has.t rfl) (.cons (t := 8) (Has.t rfl) (.cons (t := 9) (Has.t rfl) (.cons (t := 10) (Has.t rfl) (.cons (t := 11) (Has.t rfl) (.cons (t := 12) (Has.t rfl) (.cons (t := 13) (Has.t rfl) .nil))))))))))) ?_
      refine Tri.ret ?_
      refine At.thr ?_
      refine rt1 (.inl rfl) Try.results9 rfl (.tmp (Has.t' rfl ?_) .nil)
      all_goals (exact isB_eq (law_div0 HB))
    · have hc2 := BP.f hc2
      have HB := hc2
      refine Tri.skip ?_
      refine At.thn (hK9 _ _ ?_); clear hK9
      refine Tri.seq fun K12 hK12 => ?_
      refine Tri.region ?_
      refine st (OK1.mv (Has.t rfl)) rfl ?_
      refine st (OK1.mv (Has.t rfl)) rfl ?_
      refine st (OK1.call (ref03_DivMod (by first | with_reducible assumption | omega | (simp only [val_words]; omega)) (by first | with_reducible assumption | omega | (simp only [val_words]; omega)) (by first | with_reducible assumption | omega | (simp only [val_words]; omega))) (.cons (Has.t rfl) (.cons (Has.t rfl) .nil))) rfl ?_
      refine st (OK1.mv (Has.t rfl)) rfl ?_
      refine st (OK1.ext (Has.t rfl) rfl) rfl ?_
      refine st (OK1.ext (Has.t rfl) rfl) rfl ?_
      refine st (OK1.as (Has.t rfl)) rfl ?_
      refine st (OK1.as (Has.t rfl)) rfl ?_
      refine nl ?_
      refine At.thn (hK12 _ _ ?_); clear hK12
      refine Tri.cv (Cv.wk (.cons (t := 4) (Has.t rfl) (.cons (t := 7) (Has.t rfl) (.cons (t := 8) (Has.t rfl) (.cons (t := 9) (Has.t rfl) (.cons (t := 10) (Has.t rfl) (.cons (t := 11) (Has.t rfl) (.cons (t := 12) (Has.t rfl) (.cons (t := 13) (Has.t rfl) (.cons (t := 14) (Has.t rfl) (.cons (t := 15) (Has.t rfl) .nil))))))))))) ?_
      refine Tri.seq fun K13 hK13 => ?_
      refine Tri.seq fun K14 hK14 => ?_
      refine Tri.region ?_
      refine st (OK1.mv (Has.t rfl)) rfl ?_
      refine st (OK1.not (Has.t rfl)) rfl ?_
      refine st (OK1.mv (Has.t rfl)) rfl ?_
      refine stF rfl rfl (fun hg => have hg' := BP.t hg; OK1.mv (Has.t rfl)) rfl ?_
      refine stF rfl rfl (fun hg => have hg' := BP.t hg; OK1.not (Has.g rfl hg)) rfl ?_
      refine st (OK1.pickOr (Has.t rfl) (fun h => Has.g rfl (ng h))) rfl ?_
      refine st (OK1.mv (Has.t rfl)) rfl ?_
      refine stF rfl rfl (fun hg => have hg' := BP.t hg; OK1.mv (Has.t rfl)) rfl ?_
      refine stF rfl rfl (fun hg => have hg' := BP.t hg; OK1.mv (Has.t rfl)) rfl ?_
      refine stF rfl rfl (fun hg => have hg' := BP.t hg; OK1.call (law03_is (by first | with_reducible assumption | omega | (simp only [val_words]; omega))) (.cons (Has.g rfl hg) (.cons (Has.g rfl hg) .nil))) rfl ?_
      refine stF rfl rfl (fun hg => have hg' := BP.t hg; OK1.not (Has.g rfl hg)) rfl ?_
      refine st (OK1.pickOr (Has.t rfl) (fun h => Has.g rfl (ng h))) rfl ?_
      refine st (OK1.mv (Has.t rfl)) rfl ?_
      refine stF rfl rfl (fun hg => have hg' := BP.t hg; OK1.mv (Has.t rfl)) rfl ?_
      refine stF rfl rfl (fun hg => have hg' := BP.t hg; OK1.mv (Has.t rfl)) rfl ?_
      refine stF rfl rfl (fun hg => have hg' := BP.t hg; OK1.call (law03_is (by first | with_reducible assumption | omega | (simp only [val_words]; omega))) (.cons (Has.g rfl hg) (.cons (Has.g rfl hg) .nil))) rfl ?_
      refine stF rfl rfl (fun hg => have hg' := BP.t hg; OK1.not (Has.g rfl hg)) rfl ?_
      refine st (OK1.pickOr (Has.t rfl) (fun h => Has.g rfl (ng h))) rfl ?_
      refine st (OK1.mv (Has.t rfl)) rfl ?_
      refine stF rfl rfl (fun hg => have hg' := BP.t hg; OK1.mv (Has.t rfl)) rfl ?_
      refine stF rfl rfl (fun hg => have hg' := BP.t hg; OK1.mv (Has.t rfl)) rfl ?_
      refine stF rfl rfl (fun hg => have hg' := BP.t hg; OK1.call (law03_is (by first | with_reducible assumption | omega | (simp only [val_words]; omega))) (.cons (Has.g rfl hg) (.cons (Has.g rfl hg) .nil))) rfl ?_
      refine stF rfl rfl (fun hg => have hg' := BP.t hg; OK1.not (Has.g rfl hg)) rfl ?_
      refine st (OK1.pickOr (Has.t rfl) (fun h => Has.g rfl (ng h))) rfl ?_
      refine st (OK1.mv (Has.t rfl)) rfl ?_
      refine stF rfl rfl (fun hg => have hg' := BP.t hg; OK1.mv (Has.t rfl)) rfl ?_
      refine stF rfl rfl (fun hg => have hg' := BP.t hg; OK1.mv (Has.t rfl)) rfl ?_
      refine stF rfl rfl (fun hg => have hg' := BP.t hg; OK1.call (ref03_Zero) (.cons (Has.g rfl hg) .nil)) rfl ?_
      refine stF rfl rfl (fun hg => have hg' := BP.t hg; OK1.neB (du := un4) rfl (Has.g rfl hg) (Has.g rfl hg)) rfl ?_
      refine st (OK1.pickOr (Has.t rfl) (fun h => Has.g rfl (ng h))) rfl ?_
      refine nl ?_
      refine At.thn (hK14 _ _ ?_); clear hK14
      refine Tri.cv (Cv.wk (.cons (t := 4) (Has.t rfl) (.cons (t := 12) (Has.t rfl) (.cons (t := 13) (Has.t rfl) (.cons (t := 14) (Has.t rfl) (.cons (t := 113) (Has.t rfl) .nil)))))) ?_
      refine Tri.cond (Has.t rfl) (fun hc3 => ?_) (fun hc3 => ?_)
      · have hc3 := BP.t hc3
        exact absurd hc3 (by simp [HB])
      · have hc3 := BP.f hc3
        skip
        refine Tri.skip ?_
        refine At.thn (hK13 _ _ ?_); clear hK13
        refine Tri.seq fun K15 hK15 => ?_
        refine Tri.region ?_
        refine st (OK1.mv (Has.t rfl)) rfl ?_
        refine st (OK1.mv (Has.t rfl)) rfl ?_
        refine stT rfl rfl (fun hg => have hg' := BP.t hg; OK1.mv (Has.t rfl)) rfl ?_
        refine stT rfl rfl (fun hg => have hg' := BP.t hg; OK1.mv (Has.t rfl)) rfl ?_
        refine stT rfl rfl (fun hg => have hg' := BP.t hg; OK1.call (law03_is (by first | with_reducible assumption | omega | (simp only [val_words]; omega))) (.cons (Has.g rfl hg) (.cons (Has.g rfl hg) .nil))) rfl ?_
        refine st (OK1.pickAnd (Has.t rfl) (fun h => Has.g rfl h)) rfl ?_
        refine st (OK1.mv (Has.t rfl)) rfl ?_
        refine stF rfl rfl (fun hg => have hg' := BP.t hg; OK1.mv (Has.t rfl)) rfl ?_
        refine stF rfl rfl (fun hg => have hg' := BP.t hg; OK1.not (Has.g rfl hg)) rfl ?_
        refine stF rfl rfl (fun hg => have hg' := BP.t hg; OK1.mv (Has.g rfl hg)) rfl ?_
        refine stGT rfl rfl (fun hg => have hg' := BP.t hg; OK1.mv (Has.t rfl)) rfl ?_
        refine stGT rfl rfl (fun hg => have hg' := BP.t hg; OK1.len sl53 (Has.g rfl hg)) rfl ?_
        refine stGT rfl rfl (fun hg => have hg' := BP.t hg; OK1.eqI (Has.g rfl hg) (Has.cI 0 rfl)) rfl ?_
        refine stF rfl rfl (fun hg => have hg' := BP.t hg; OK1.pickAnd (Has.g rfl hg) (fun h => Has.g rfl (ga hg h))) rfl ?_
        refine st (OK1.pickOr (Has.t rfl) (fun h => Has.g rfl (ng h))) rfl ?_
        refine st (OK1.as (Has.t rfl)) rfl ?_
        refine nl ?_
        refine At.thn (hK15 _ _ ?_); clear hK15
        refine Tri.cv (Cv.wk (.cons (t := 4) (Has.t rfl) .nil)) ?_
        refine Tri.ret ?_
        refine rt1 (.inl rfl) Try.results9 rfl (.tmp (Has.t' rfl ?_) .nil)
        all_goals (exact isB_eq (law_div1 HB))

theorem c_DivGcd (xs ys zs : List Nat) : Ctr Try.prog 14 [isWords xs, isWords ys, isWords zs] (isB true) := by
  refine Ctr.intro Try.func14 rfl (by kernel_rfl) Try.ntmps14 rfl fun w0 F0 => ?_
  refine Tri.cv (Cv.wk (.cons (t := 0) (Has.t rfl) (.cons (t := 1) (Has.t rfl) (.cons (t := 2) (Has.t rfl) .nil)))) ?_
  refine Tri.fact (Has.lenLt (Has.t (t := 0) rfl)) fun lt0 => ?_
  refine Tri.fact (Has.okW (Has.t (t := 0) rfl)) fun ok0 => ?_
  refine Tri.fact (Has.lenLt (Has.t (t := 1) rfl)) fun lt1 => ?_
  refine Tri.fact (Has.okW (Has.t (t := 1) rfl)) fun ok1 => ?_
  refine Tri.fact (Has.lenLt (Has.t (t := 2) rfl)) fun lt2 => ?_
  refine Tri.fact (Has.okW (Has.t (t := 2) rfl)) fun ok2 => ?_
  have n0 : (List.length (words (val xs))) ≤ xs.length := nw_val ok0
  have n1 : (List.length (words (val ys))) ≤ ys.length := nw_val ok1
  have n2 : (List.length (words (val zs))) ≤ zs.length := nw_val ok2
  have d0 := nd_val ok0
  have d1 := nd_val ok1
  have d2 := nd_val ok2
  refine Tri.seq fun K1 hK1 => ?_
  refine Tri.region ?_
  refine st (OK1.as (Has.cB false)) rfl ?_
  refine nl ?_
  refine At.thn (hK1 _ _ ?_); clear hK1
  refine Tri.seq fun K2 hK2 => ?_
  refine Tri.seq fun K3 hK3 => ?_
  refine Tri.region ?_
  refine st (OK1.call (law03_awake) .nil) rfl ?_
  refine st (OK1.not (Has.t rfl)) rfl ?_
  refine st (OK1.mv (Has.t rfl)) rfl ?_
  refine stF rfl rfl (fun hg => have hg' := BP.t hg; OK1.mv (Has.t rfl)) rfl ?_
  refine stF rfl rfl (fun hg => have hg' := BP.t hg; OK1.len sl53 (Has.g rfl hg)) rfl ?_
  refine stF rfl rfl (fun hg => have hg' := BP.t hg; OK1.gtI (Has.g rfl hg) (Has.cI 8 rfl)) rfl ?_
  refine st (OK1.pickOr (Has.t rfl) (fun h => Has.g rfl (ng h))) rfl ?_
  refine st (OK1.mv (Has.t rfl)) rfl ?_
  refine stF rfl rfl (fun hg => have hg' := BP.t hg; OK1.mv (Has.t rfl)) rfl ?_
  refine stF rfl rfl (fun hg => have hg' := BP.t hg; OK1.len sl53 (Has.g rfl hg)) rfl ?_
  refine stF rfl rfl (fun hg => have hg' := BP.t hg; OK1.gtI (Has.g rfl hg) (Has.cI 8 rfl)) rfl ?_
  refine st (OK1.pickOr (Has.t rfl) (fun h => Has.g rfl (ng h))) rfl ?_
  refine st (OK1.mv (Has.t rfl)) rfl ?_
  refine stF rfl rfl (fun hg => have hg' := BP.t hg; OK1.mv (Has.t rfl)) rfl ?_
  refine stF rfl rfl (fun hg => have hg' := BP.t hg; OK1.len sl53 (Has.g rfl hg)) rfl ?_
  refine stF rfl rfl (fun hg => have hg' := BP.t hg; OK1.gtI (Has.g rfl hg) (Has.cI 8 rfl)) rfl ?_
  refine st (OK1.pickOr (Has.t rfl) (fun h => Has.g rfl (ng h))) rfl ?_
  refine nl ?_
  refine At.thn (hK3 _ _ ?_); clear hK3
  refine Tri.cv (Cv.wk (.cons (t := 0) (Has.t rfl) (.cons (t := 1) (Has.t rfl) (.cons (t := 2) (Has.t rfl) (.cons (t := 6) (Has.t rfl) (.cons (t := 30) (Has.t rfl) .nil)))))) ?_
  refine Tri.cond (Has.t rfl) (fun hc1 => ?_) (fun hc1 => ?_)
  · have hc1 := BP.t hc1
    refine Tri.seq fun K4 hK4 => ?_
    refine Tri.region ?_
    refine st (OK1.call (law03_awake) .nil) rfl ?_
    refine st (OK1.as (Has.t rfl)) rfl ?_
    refine nl ?_
    refine At.thn (hK4 _ _ ?_); clear hK4
    refine Tri.ret ?_
    refine At.thr ?_
    refine rt1 (.inl rfl) Try.results14 rfl (.tmp (Has.t' rfl ?_) .nil)
    all_goals (rfl)
  · have hc1 := BP.f hc1
    have g1 := Nat.le_trans (nw_mono (gcd_le_max (val xs) (val ys))) (nw_max _ _)
    have g2 := Nat.le_trans (nw_mono (lcm_le (val xs) (val ys))) (nw_mul _ _)
    have m1 := nw_mul (val xs) (val ys)
    have m3 := nw_mul (Nat.gcd (val xs) (val ys)) (Nat.lcm (val xs) (val ys))
    have gd : (List.length (digs (Nat.gcd (val xs) (val ys)))) ≤ 32 := d_nw_le (by rw [show (32 : Nat) = 4 * 8 from rfl, Nat.pow_mul, ← D4]; exact lt_pow_of (by omega))
    refine Tri.skip ?_
    refine At.thn (hK2 _ _ ?_); clear hK2
    refine Tri.seq fun K5 hK5 => ?_
    refine Tri.region ?_
    refine st (OK1.mv (Has.t rfl)) rfl ?_
    refine st (OK1.mv (Has.t rfl)) rfl ?_
    refine st (OK1.call (div_Gcd (by first | with_reducible assumption | omega | (simp only [val_words]; omega)) (by first | with_reducible assumption | omega | (simp only [val_words]; omega))) (.cons (Has.t rfl) (.cons (Has.t rfl) .nil))) rfl ?_
    refine st (OK1.mv (Has.t rfl)) rfl ?_
    refine st (OK1.mv (Has.t rfl)) rfl ?_
    refine st (OK1.call (div_LcmS (by first | with_reducible assumption | omega | (simp only [val_words]; omega)) (by first | with_reducible assumption | omega | (simp only [val_words]; omega))) (.cons (Has.t rfl) (.cons (Has.t rfl) .nil))) rfl ?_
    refine st (OK1.as (Has.t rfl)) rfl ?_
    refine st (OK1.as (Has.t rfl)) rfl ?_
    refine nl ?_
    refine At.thn (hK5 _ _ ?_); clear hK5
    refine Tri.cv (Cv.wk (.cons (t := 0) (Has.t rfl) (.cons (t := 1) (Has.t rfl) (.cons (t := 2) (Has.t rfl) (.cons (t := 6) (Has.t rfl) (.cons (t := 7) (Has.t rfl) (.cons (t := 8) (Has.t rfl) .nil))))))) ?_
    refine Tri.seq fun K6 hK6 => ?_
    refine Tri.region ?_
    refine st (OK1.mv (Has.t rfl)) rfl ?_
    refine st (OK1.call (ref01_From (by first | with_reducible assumption | omega | (simp only [val_words]; omega))) (.cons (Has.t rfl) .nil)) rfl ?_
    refine st (OK1.mv (Has.t rfl)) rfl ?_
    refine st (OK1.call (ref01_From (by first | with_reducible assumption | omega | (simp only [val_words]; omega))) (.cons (Has.t rfl) .nil)) rfl ?_
    refine st (OK1.mv (Has.t rfl)) rfl ?_
    refine st (OK1.call (ref01_From (by first | with_reducible assumption | omega | (simp only [val_words]; omega))) (.cons (Has.t rfl) .nil)) rfl ?_
    refine st (OK1.mv (Has.t rfl)) rfl ?_
    refine st (OK1.eq (OK1.call (ref01_From (by first | with_reducible assumption | omega | (simp only [val_words]; omega))) (.cons (Has.t rfl) .nil)) (by first | (simp only [val_words]; rfl) | rfl)) rfl ?_
    refine st (OK1.as (Has.t rfl)) rfl ?_
    refine st (OK1.as (Has.t rfl)) rfl ?_
    refine st (OK1.as (Has.t rfl)) rfl ?_
    refine st (OK1.as (Has.t rfl)) rfl ?_
    refine nl ?_
    refine At.thn (hK6 _ _ ?_); clear hK6
    refine Tri.cv (Cv.wk (.cons (t := 0) (Has.t rfl) (.cons (t := 1) (Has.t rfl) (.cons (t := 6) (Has.t rfl) (.cons (t := 7) (Has.t rfl) (.cons (t := 8) (Has.t rfl) (.cons (t := 9) (Has.t rfl) (.cons (t := 10) (Has.t rfl) (.cons (t := 11) (Has.t rfl) (.cons (t := 12) (Has.t rfl) .nil)))))))))) ?_
    refine Tri.seq fun K7 hK7 => ?_
    refine Tri.seq fun K8 hK8 => ?_
    refine Tri.region ?_
    refine st (OK1.mv (Has.t rfl)) rfl ?_
    refine st (OK1.mv (Has.t rfl)) rfl ?_
    refine st (OK1.call (ref03_Divides (by first | with_reducible assumption | omega | (simp only [val_words]; omega)) (by first | with_reducible assumption | omega | (simp only [val_words]; omega))) (.cons (Has.t rfl) (.cons (Has.t rfl) .nil))) rfl ?_
    refine st (OK1.not (Has.t rfl)) rfl ?_
    refine st (OK1.mv (Has.t rfl)) rfl ?_
    refine stF rfl rfl (fun hg => have hg' := BP.t hg; OK1.mv (Has.t rfl)) rfl ?_
    refine stF rfl rfl (fun hg => have hg' := BP.t hg; OK1.mv (Has.t rfl)) rfl ?_
    refine stF rfl rfl (fun hg => have hg' := BP.t hg; OK1.call (ref03_Divides (by first | with_reducible assumption | omega | (simp only [val_words]; omega)) (by first | with_reducible assumption | omega | (simp only [val_words]; omega))) (.cons (Has.g rfl hg) (.cons (Has.g rfl hg) .nil))) rfl ?_
    refine stF rfl rfl (fun hg => have hg' := BP.t hg; OK1.not (Has.g rfl hg)) rfl ?_
    refine st (OK1.pickOr (Has.t rfl) (fun h => Has.g rfl (ng h))) rfl ?_
    refine st (OK1.mv (Has.t rfl)) rfl ?_
    refine stF rfl rfl (fun hg => have hg' := BP.t hg; OK1.mv (Has.t rfl)) rfl ?_
    refine stF rfl rfl (fun hg => have hg' := BP.t hg; OK1.mv (Has.t rfl)) rfl ?_
    refine stF rfl rfl (fun hg => have hg' := BP.t hg; OK1.eq (OK1.call (nat_Mul (by first | with_reducible assumption | omega | (simp only [val_words]; omega))) (.cons (Has.g rfl hg) (.cons (Has.g rfl hg) .nil))) (by first | (simp only [val_words]; rfl) | rfl)) rfl ?_
    refine stF rfl rfl (fun hg => have hg' := BP.t hg; OK1.mv (Has.t rfl)) rfl ?_
    refine stF rfl rfl (fun hg => have hg' := BP.t hg; OK1.mv (Has.t rfl)) rfl ?_
    refine stF rfl rfl (fun hg => have hg' := BP.t hg; OK1.call (nat_Mul (by first | with_reducible assumption | omega | (simp only [val_words]; omega))) (.cons (Has.g rfl hg) (.cons (Has.g rfl hg) .nil))) rfl ?_
    refine stF rfl rfl (fun hg => have hg' := BP.t hg; OK1.eq (OK1.call (nat_Cmp) (.cons (Has.g rfl hg) (.cons (Has.g rfl hg) .nil))) (by first | (simp only [val_words]; rfl) | rfl)) rfl ?_
    refine stF rfl rfl (fun hg => have hg' := BP.t hg; OK1.neI (Has.g rfl hg) (Has.cI 0 rfl)) rfl ?_
    refine st (OK1.pickOr (Has.t rfl) (fun h => Has.g rfl (ng h))) rfl ?_
    refine nl ?_
    refine At.thn (hK8 _ _ ?_); clear hK8
    refine Tri.cv (Cv.wk (.cons (t := 6) (Has.t rfl) (.cons (t := 9) (Has.t rfl) (.cons (t := 10) (Has.t rfl) (.cons (t := 11) (Has.t rfl) (.cons (t := 12) (Has.t rfl) (.cons (t := 65) (Has.t rfl) .nil))))))) ?_
    refine Tri.cond (Has.t rfl) (fun hc2 => ?_) (fun hc2 => ?_)
    · have hc2 := BP.t hc2
      exact absurd hc2 (by simp [Nat.gcd_dvd_left, Nat.gcd_dvd_right, Nat.gcd_mul_lcm, cmpN_eq0 rfl])
    · have hc2 := BP.f hc2
      skip
      refine Tri.skip ?_
      refine At.thn (hK7 _ _ ?_); clear hK7
      refine Tri.seq fun K9 hK9 => ?_
      refine Tri.region ?_
      refine st (OK1.mv (Has.t rfl)) rfl ?_
      refine st (OK1.call (ref03_Zero) (.cons (Has.t rfl) .nil)) rfl ?_
      refine st (OK1.not (Has.t rfl)) rfl ?_
      refine st (OK1.mv (Has.t rfl)) rfl ?_
      refine stT rfl rfl (fun hg => have hg' := BP.t hg; OK1.mv (Has.t rfl)) rfl ?_
      refine stT rfl rfl (fun hg => have hg' := BP.t hg; OK1.mv (Has.t rfl)) rfl ?_
      refine stT rfl rfl (fun hg => have hg' := BP.t hg; OK1.call (ref03_Divides (by first | with_reducible assumption | omega | (simp only [val_words]; omega)) (by first | with_reducible assumption | omega | (simp only [val_words]; omega))) (.cons (Has.g rfl hg) (.cons (Has.g rfl hg) .nil))) rfl ?_
      refine st (OK1.pickAnd (Has.t rfl) (fun h => Has.g rfl h)) rfl ?_
      refine st (OK1.mv (Has.t rfl)) rfl ?_
      refine stT rfl rfl (fun hg => have hg' := BP.t hg; OK1.mv (Has.t rfl)) rfl ?_
      refine stT rfl rfl (fun hg => have hg' := BP.t hg; OK1.mv (Has.t rfl)) rfl ?_
      refine stT rfl rfl (fun hg => have hg' := BP.t hg; OK1.call (ref03_Divides (by first | with_reducible assumption | omega | (simp only [val_words]; omega)) (by first | with_reducible assumption | omega | (simp only [val_words]; omega))) (.cons (Has.g rfl hg) (.cons (Has.g rfl hg) .nil))) rfl ?_
      refine st (OK1.pickAnd (Has.t rfl) (fun h => Has.g rfl h)) rfl ?_
      refine st (OK1.as (Has.t rfl)) rfl ?_
      refine nl ?_
      refine At.thn (hK9 _ _ ?_); clear hK9
      refine Tri.cv (Cv.wk (.cons (t := 6) (Has.t rfl) (.cons (t := 9) (Has.t rfl) (.cons (t := 10) (Has.t rfl) (.cons (t := 11) (Has.t rfl) (.cons (t := 12) (Has.t rfl) (.cons (t := 13) (Has.t rfl) .nil))))))) ?_
      refine Tri.seq fun K10 hK10 => ?_
      refine Tri.region ?_
      refine st (OK1.mv (Has.t rfl)) rfl ?_
      refine st (OK1.not (Has.t rfl)) rfl ?_
      refine st (OK1.mv (Has.t rfl)) rfl ?_
      refine stF rfl rfl (fun hg => have hg' := BP.t hg; OK1.mv (Has.t rfl)) rfl ?_
      refine stF rfl rfl (fun hg => have hg' := BP.t hg; OK1.mv (Has.t rfl)) rfl ?_
      refine stF rfl rfl (fun hg => have hg' := BP.t hg; OK1.call (ref03_Divides (by first | with_reducible assumption | omega | (simp only [val_words]; omega)) (by first | with_reducible assumption | omega | (simp only [val_words]; omega))) (.cons (Has.g rfl hg) (.cons (Has.g rfl hg) .nil))) rfl ?_
      refine st (OK1.pickOr (Has.t rfl) (fun h => Has.g rfl (ng h))) rfl ?_
      refine st (OK1.mv (Has.t rfl)) rfl ?_
      refine stT rfl rfl (fun hg => have hg' := BP.t hg; OK1.mv (Has.t rfl)) rfl ?_
      refine stT rfl rfl (fun hg => have hg' := BP.t hg; OK1.call (ref03_Zero) (.cons (Has.g rfl hg) .nil)) rfl ?_
      refine stT rfl rfl (fun hg => have hg' := BP.t hg; OK1.mv (Has.t rfl)) rfl ?_
      refine stT rfl rfl (fun hg => have hg' := BP.t hg; OK1.call (ref03_Zero) (.cons (Has.g rfl hg) .nil)) rfl ?_
      refine stT rfl rfl (fun hg => have hg' := BP.t hg; OK1.mv (Has.g rfl hg)) rfl ?_
      refine stGT rfl rfl (fun hg => have hg' := BP.t hg; OK1.mv (Has.t rfl)) rfl ?_
      refine stGT rfl rfl (fun hg => have hg' := BP.t hg; OK1.call (ref03_Zero) (.cons (Has.g rfl hg) .nil)) rfl ?_
      refine stT rfl rfl (fun hg => have hg' := BP.t hg; OK1.pickAnd (Has.g rfl hg) (fun h => Has.g rfl (ga hg h))) rfl ?_
      refine stT rfl rfl (fun hg => have hg' := BP.t hg; OK1.eqB (du := un4) rfl (Has.g rfl hg) (Has.g rfl hg)) rfl ?_
      refine st (OK1.pickAnd (Has.t rfl) (fun h => Has.g rfl h)) rfl ?_
      refine st (OK1.as (Has.t rfl)) rfl ?_
      refine nl ?_
      refine At.thn (hK10 _ _ ?_); clear hK10
      refine Tri.cv (Cv.wk (.cons (t := 6) (Has.t rfl) .nil)) ?_
      refine Tri.ret ?_
      refine rt1 (.inl rfl) Try.results14 rfl (.tmp (Has.t' rfl ?_) .nil)
      all_goals (exact isB_eq (law_gcd _ _ _))
end Go.Proofs.Ytnfelhamnebngaa
