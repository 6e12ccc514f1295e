/- Laws of layer 6: rests and inverses, as contracts. -/
import Derived.Test.YtokhpacdgoebpaaMo3
namespace Go.Proofs.Ytokhpacdgoebpaa
open Go.En Go.RowKit
set_option linter.unusedVariables false
set_option maxRecDepth 10000
open Go.Nt
theorem nw_rest (a m : Int) : (List.length (words (if 0 < m then a % m else 0).natAbs)) ≤ (List.length (words m.natAbs)) := by
  split
  · rename_i h; exact nz_le (Int.emod_nonneg _ (by omega)) (Int.le_of_lt (Int.emod_lt_of_pos _ h))
  · rw [Int.natAbs_zero, words_zero]; exact Nat.zero_le _
theorem nw_inv (a m : Int) : (List.length (words (if 0 < m ∧ Nat.gcd a.natAbs m.natAbs = 1 then inv a m else 0).natAbs)) ≤ (List.length (words m.natAbs)) := by
  split
  · rename_i h; have := inv_spec h.1 h.2; exact nz_le this.1 (Int.le_of_lt this.2.1)
  · rw [Int.natAbs_zero, words_zero]; exact Nat.zero_le _
theorem rests_dead {a m r : Int} (hm : 0 < m) (hr : r = if 0 < m then a % m else 0) : ¬(((m ≤ 0 ∨ ¬(0 ≤ r ∧ r < m)) ∨ ¬ m ∣ a - r) ∨ (decide (0 < m ∧ Nat.gcd a.natAbs m.natAbs = 1) == decide (Nat.gcd a.natAbs m.natAbs ≠ 1)) = true) := by
  rw [if_pos hm] at hr
  have h1 := Int.emod_nonneg a (show m ≠ 0 by omega)
  have h2 := Int.emod_lt_of_pos a hm
  rintro (((h | h) | h) | h)
  · omega
  · exact h (by omega)
  · exact h ⟨a / m, by have := Int.mul_ediv_add_emod a m; omega⟩
  · by_cases hg : Nat.gcd a.natAbs m.natAbs = 1
    · rw [decide_eq_true ⟨hm, hg⟩, decide_eq_false (fun e => e hg)] at h; cases h
    · rw [decide_eq_false (fun e => hg e.2), decide_eq_true hg] at h; cases h
theorem rests_none {a m r x : Int} (hm : ¬ 0 < m) (hr : r = if 0 < m then a % m else 0) (hx : x = if 0 < m ∧ Nat.gcd a.natAbs m.natAbs = 1 then inv a m else 0) :
    (!decide (0 < m) && !decide (0 < m ∧ Nat.gcd a.natAbs m.natAbs = 1) && decide (sgn r = 0) && decide (sgn x = 0)) = true := by
  rw [if_neg hm] at hr
  rw [if_neg (fun e => hm e.1)] at hx
  subst hr; subst hx
  rw [decide_eq_false hm, decide_eq_false (fun e => hm e.1)]; rfl
theorem rests_all {a m x : Int} (hm : 0 < m) (hx : x = if 0 < m ∧ Nat.gcd a.natAbs m.natAbs = 1 then inv a m else 0) :
    (!decide (0 < m ∧ Nat.gcd a.natAbs m.natAbs = 1) && decide (sgn x = 0) || decide (0 < m ∧ Nat.gcd a.natAbs m.natAbs = 1) && decide (0 ≤ x ∧ x < m) && decide (m ∣ a * x - 1)) = true := by
  by_cases hg : Nat.gcd a.natAbs m.natAbs = 1
  · rw [if_pos ⟨hm, hg⟩] at hx
    have h := inv_spec hm hg
    subst hx
    rw [decide_eq_true (show 0 < m ∧ _ from ⟨hm, hg⟩), decide_eq_true (show _ ∧ _ from ⟨h.1, h.2.1⟩), decide_eq_true h.2.2]; simp
  · rw [if_neg (fun e => hg e.2)] at hx
    subst hx
    rw [decide_eq_false (fun e => hg e.2)]; rfl


set_option maxHeartbeats 4000000 in
theorem c_ModRests (m : Bool) (xs : List Nat) (n : Bool) (ys : List Nat) : Ctr Try.prog 8 [Flat [isB m, isWords xs], Flat [isB n, isWords ys]] (isB true) := by
  refine Ctr.intro Try.func8 rfl (by kernel_rfl) Try.ntmps8 rfl fun w0 F0 => ?_
  refine Tri.cv (Cv.wk (.cons (t := 0) (Has.t rfl) (.cons (t := 1) (Has.t rfl) .nil))) ?_
  refine Tri.fact (Has.okZ (Has.t (t := 0) rfl)) fun okz0 => ?_
  refine Tri.fact (Has.okZ (Has.t (t := 1) rfl)) fun okz1 => ?_
  have n0 : (List.length (words (zv m xs).natAbs)) ≤ xs.length := by rw [zv_nw]; exact nw_val okz0.1
  have n1 : (List.length (words (zv n ys).natAbs)) ≤ ys.length := by rw [zv_nw]; exact nw_val okz1.1
  have e0 := zv_nw m xs
  have e1 := zv_nw n ys
  have h11 : (List.length (words (1 : Int).natAbs)) = 1 := nz_one
  obtain ⟨r, hr⟩ : ∃ r : Int, r = if 0 < zv n ys then zv m xs % zv n ys else 0 := ⟨_, rfl⟩
  obtain ⟨x, hx⟩ : ∃ x : Int, x = if 0 < zv n ys ∧ Nat.gcd (zv m xs).natAbs (zv n ys).natAbs = 1 then inv (zv m xs) (zv n ys) else 0 := ⟨_, rfl⟩
  have nr : (List.length (words r.natAbs)) ≤ (List.length (words (zv n ys).natAbs)) := by rw [hr]; exact nw_rest _ _
  have nx : (List.length (words x.natAbs)) ≤ (List.length (words (zv n ys).natAbs)) := by rw [hx]; exact nw_inv _ _
  have nm := nz_mul (zv m xs) x
  refine Tri.seq fun K1 hK1 => ?_
  refine Tri.region ?_
  refine Ops.box (Has.t rfl) rfl fun b1 => ?_
  refine Ops.box (Has.t rfl) rfl fun b2 => ?_
  refine st (OK1.as (Has.cB false)) rfl ?_
  refine nl ?_
  refine At.thn (hK1 _ _ ?_); clear hK1
  refine Tri.seq fun K2 hK2 => ?_
  refine Tri.seq fun K3 hK3 => ?_
  refine Tri.region ?_
  refine st (OK1.call (law06_awake) .nil) rfl ?_
  refine st (OK1.not (Has.t rfl)) rfl ?_
  refine st (OK1.mv (Has.t rfl)) rfl ?_
  refine stF rfl rfl (fun hg => have hg' := BP.t hg; OK1.load (Has.t rfl) (i := 1) rfl ty55 rfl (Ss' := [_, _]) rfl) rfl ?_
  refine stF rfl rfl (fun hg => have hg' := BP.t hg; OK1.load (Has.t rfl) (i := 0) rfl ty55 rfl (Ss' := [_, _]) rfl) rfl ?_
  refine stF rfl rfl (fun hg => have hg' := BP.t hg; OK1.load (Has.t rfl) (i := 0) rfl ty55 rfl (Ss' := [_, _]) rfl) rfl ?_
  refine stF rfl rfl (fun hg => have hg' := BP.t hg; OK1.call (law06_few) (.cons (Has.g rfl hg) (.cons (Has.g rfl hg) (.cons (Has.g rfl hg) (.cons (Has.cI 4 rfl) .nil))))) rfl ?_
  refine stF rfl rfl (fun hg => have hg' := BP.t hg; OK1.not (Has.g rfl hg)) rfl ?_
  refine st (OK1.pickOr (Has.t rfl) (fun h => Has.g rfl (ng h))) rfl ?_
  refine nl ?_
  refine At.thn (hK3 _ _ ?_); clear hK3
  refine Tri.cv (Cv.wk (.cons (t := 2) (Has.t rfl) (.cons (t := 3) (Has.t rfl) (.cons (t := 4) (Has.t rfl) (.cons (t := 17) (Has.t rfl) .nil))))) ?_
  refine Tri.cond (Has.t rfl) (fun hc1 => ?_) (fun hc1 => ?_)
  · have hc1 := BP.t hc1
    refine Tri.seq fun K4 hK4 => ?_
    refine Tri.region ?_
    refine st (OK1.call (law06_awake) .nil) rfl ?_
    refine st (OK1.as (Has.t rfl)) rfl ?_
    refine nl ?_
    refine At.thn (hK4 _ _ ?_); clear hK4
    refine Tri.ret ?_
    refine At.thr ?_
    refine rt1 (.inl rfl) Try.results8 rfl (.tmp (Has.t' rfl ?_) .nil)
    all_goals (rfl)
  · have hc1 := BP.f hc1
    skip
    refine Tri.skip ?_
    refine At.thn (hK2 _ _ ?_); clear hK2
    refine Tri.seq fun K5 hK5 => ?_
    refine Tri.region ?_
    refine st (OK1.load (Has.t rfl) (i := 1) rfl ty55 rfl (Ss' := [_, _]) rfl) rfl ?_
    refine st (OK1.load (Has.t rfl) (i := 0) rfl ty55 rfl (Ss' := [_, _]) rfl) rfl ?_
    refine st (OK1.eq (OK1.call (modn_Mod (by first | with_reducible assumption | omega | (simp only [val_words, zv_nf]; omega) | (simp only [val_words, zv_nf, Int.natAbs_natCast]; omega)) (by first | with_reducible assumption | omega | (simp only [val_words, zv_nf]; omega) | (simp only [val_words, zv_nf, Int.natAbs_natCast]; omega))) (.cons (Has.t rfl) (.cons (Has.t rfl) .nil))) ((by rw [← hr]))) rfl ?_
    refine st (OK1.mv (Has.t rfl)) rfl ?_
    refine st (OK1.ext (Has.t rfl) rfl) rfl ?_
    refine st (OK1.ext (Has.t rfl) rfl) rfl ?_
    refine Ops.alloc [isB false, SlM isU []] zero55 (fun _ _ => ⟨rfl, nilM _ _, trivial⟩) rfl fun b3 => ?_
    refine Ops.store (Has.t rfl) (Has.t rfl) (i := 0) rfl ty55 rfl rfl (Ss' := [_, _]) rfl (M' := [(some _, cellM [_, _]), _, _]) rfl ?_
    refine st (OK1.as (Has.t rfl)) rfl ?_
    refine nl ?_
    refine At.thn (hK5 _ _ ?_); clear hK5
    refine Tri.cv (Cv.wk (.cons (t := 2) (Has.t rfl) (.cons (t := 3) (Has.t rfl) (.cons (t := 4) (Has.t rfl) (.cons (t := 5) (Has.t rfl) (.cons (t := 6) (Has.t rfl) .nil)))))) ?_
    refine Tri.seq fun K6 hK6 => ?_
    refine Tri.region ?_
    refine st (OK1.load (Has.t rfl) (i := 2) rfl ty55 rfl (Ss' := [_, _]) rfl) rfl ?_
    refine st (OK1.load (Has.t rfl) (i := 1) rfl ty55 rfl (Ss' := [_, _]) rfl) rfl ?_
    refine st (OK1.eq (OK1.call (modn_Inverse (by first | with_reducible assumption | omega | (simp only [val_words, zv_nf]; omega) | (simp only [val_words, zv_nf, Int.natAbs_natCast]; omega)) (by first | with_reducible assumption | omega | (simp only [val_words, zv_nf]; omega) | (simp only [val_words, zv_nf, Int.natAbs_natCast]; omega))) (.cons (Has.t rfl) (.cons (Has.t rfl) .nil))) ((by rw [← hx]))) rfl ?_
    refine st (OK1.mv (Has.t rfl)) rfl ?_
    refine st (OK1.ext (Has.t rfl) rfl) rfl ?_
    refine st (OK1.ext (Has.t rfl) rfl) rfl ?_
    refine Ops.alloc [isB false, SlM isU []] zero55 (fun _ _ => ⟨rfl, nilM _ _, trivial⟩) rfl fun b4 => ?_
    refine Ops.store (Has.t rfl) (Has.t rfl) (i := 0) rfl ty55 rfl rfl (Ss' := [_, _]) rfl (M' := [(some _, cellM [_, _]), _, _, _]) rfl ?_
    refine st (OK1.as (Has.t rfl)) rfl ?_
    refine nl ?_
    refine At.thn (hK6 _ _ ?_); clear hK6
    refine Tri.cv (Cv.wk (.cons (t := 2) (Has.t rfl) (.cons (t := 3) (Has.t rfl) (.cons (t := 4) (Has.t rfl) (.cons (t := 5) (Has.t rfl) (.cons (t := 6) (Has.t rfl) (.cons (t := 7) (Has.t rfl) (.cons (t := 8) (Has.t rfl) .nil)))))))) ?_
    refine Tri.seq fun K7 hK7 => ?_
    refine Tri.seq fun K8 hK8 => ?_
    refine Tri.region ?_
    refine st (OK1.load (Has.t rfl) (i := 2) rfl ty55 rfl (Ss' := [_, _]) rfl) rfl ?_
    refine st (OK1.call (zint_Sign (by first | with_reducible assumption | omega | (simp only [val_words, zv_nf]; omega) | (simp only [val_words, zv_nf, Int.natAbs_natCast]; omega))) (.cons (Has.t rfl) .nil)) rfl ?_
    refine st (OK1.leI (Has.t rfl) (Has.cI 0 rfl)) rfl ?_
    refine nl ?_
    refine At.thn (hK8 _ _ ?_); clear hK8
    refine Tri.cond (Has.t rfl) (fun hc2 => ?_) (fun hc2 => ?_)
    · have hc2 := BP.t hc2
      have hN : ¬ 0 < zv n ys := fun e => by have := (sgn_pos _).2 e; omega
      refine Tri.seq fun K9 hK9 => ?_
      refine Tri.region ?_
      refine st (OK1.mv (Has.t rfl)) rfl ?_
      refine st (OK1.not (Has.t rfl)) rfl ?_
      refine st (OK1.mv (Has.t rfl)) rfl ?_
      refine stT rfl rfl (fun hg => have hg' := BP.t hg; OK1.mv (Has.t rfl)) rfl ?_
      refine stT rfl rfl (fun hg => have hg' := BP.t hg; OK1.not (Has.g rfl hg)) rfl ?_
      refine st (OK1.pickAnd (Has.t rfl) (fun h => Has.g rfl h)) rfl ?_
      refine st (OK1.mv (Has.t rfl)) rfl ?_
      refine stT rfl rfl (fun hg => have hg' := BP.t hg; OK1.load (Has.t rfl) (i := 1) rfl ty55 rfl (Ss' := [_, _]) rfl) rfl ?_
      refine stT rfl rfl (fun hg => have hg' := BP.t hg; OK1.eq (OK1.call (zint_Sign (by first | with_reducible assumption | omega | (simp only [val_words, zv_nf]; omega) | (simp only [val_words, zv_nf, Int.natAbs_natCast]; omega))) (.cons (Has.g rfl hg) .nil)) (by first | (simp only [val_words, zv_nf]; rfl) | rfl)) rfl ?_
      refine stT rfl rfl (fun hg => have hg' := BP.t hg; OK1.eqI (Has.g rfl hg) (Has.cI 0 rfl)) rfl ?_
      refine st (OK1.pickAnd (Has.t rfl) (fun h => Has.g rfl h)) rfl ?_
      refine st (OK1.mv (Has.t rfl)) rfl ?_
      refine stT rfl rfl (fun hg => have hg' := BP.t hg; OK1.load (Has.t rfl) (i := 0) rfl ty55 rfl (Ss' := [_, _]) rfl) rfl ?_
      refine stT rfl rfl (fun hg => have hg' := BP.t hg; OK1.eq (OK1.call (zint_Sign (by first | with_reducible assumption | omega | (simp only [val_words, zv_nf]; omega) | (simp only [val_words, zv_nf, Int.natAbs_natCast]; omega))) (.cons (Has.g rfl hg) .nil)) (by first | (simp only [val_words, zv_nf]; rfl) | rfl)) rfl ?_
      refine stT rfl rfl (fun hg => have hg' := BP.t hg; OK1.eqI (Has.g rfl hg) (Has.cI 0 rfl)) rfl ?_
      refine st (OK1.pickAnd (Has.t rfl) (fun h => Has.g rfl h)) rfl ?_
      refine st (OK1.as (Has.t rfl)) rfl ?_
      refine nl ?_
      refine At.thn (hK9 _ _ ?_); clear hK9
      refine Tri.cv (Cv.wk (.cons (t := 2) (Has.t rfl) (.cons (t := 3) (Has.t rfl) (.cons (t := 4) (Has.t rfl) (.cons (t := 5) (Has.t rfl) (.cons (t := 6) (Has.t rfl) (.cons (t := 7) (Has.t rfl) (.cons (t := 8) (Has.t rfl) .nil)))))))) ?_
      refine Tri.ret ?_
      refine At.thr ?_
      refine rt1 (.inl rfl) Try.results8 rfl (.tmp (Has.t' rfl ?_) .nil)
      all_goals (exact isB_eq (rests_none hN hr hx))
    · have hc2 := BP.f hc2
      have hP : 0 < zv n ys := (sgn_pos _).1 (by omega)
      refine Tri.skip ?_
      refine At.thn (hK7 _ _ ?_); clear hK7
      refine Tri.seq fun K10 hK10 => ?_
      refine Tri.seq fun K11 hK11 => ?_
      refine Tri.region ?_
      refine st (OK1.mv (Has.t rfl)) rfl ?_
      refine st (OK1.not (Has.t rfl)) rfl ?_
      refine st (OK1.mv (Has.t rfl)) rfl ?_
      refine stF rfl rfl (fun hg => have hg' := BP.t hg; OK1.load (Has.t rfl) (i := 1) rfl ty55 rfl (Ss' := [_, _]) rfl) rfl ?_
      refine stF rfl rfl (fun hg => have hg' := BP.t hg; OK1.load (Has.t rfl) (i := 2) rfl ty55 rfl (Ss' := [_, _]) rfl) rfl ?_
      refine stF rfl rfl (fun hg => have hg' := BP.t hg; OK1.eq (OK1.call (ref06_Within (by first | with_reducible assumption | omega | (simp only [val_words, zv_nf]; omega) | (simp only [val_words, zv_nf, Int.natAbs_natCast]; omega)) (by first | with_reducible assumption | omega | (simp only [val_words, zv_nf]; omega) | (simp only [val_words, zv_nf, Int.natAbs_natCast]; omega))) (.cons (Has.g rfl hg) (.cons (Has.g rfl hg) .nil))) (by first | (simp only [val_words, zv_nf]; rfl) | rfl)) rfl ?_
      refine stF rfl rfl (fun hg => have hg' := BP.t hg; OK1.not (Has.g rfl hg)) rfl ?_
      refine st (OK1.pickOr (Has.t rfl) (fun h => Has.g rfl (ng h))) rfl ?_
      refine st (OK1.mv (Has.t rfl)) rfl ?_
      refine stF rfl rfl (fun hg => have hg' := BP.t hg; OK1.load (Has.t rfl) (i := 3) rfl ty55 rfl (Ss' := [_, _]) rfl) rfl ?_
      refine stF rfl rfl (fun hg => have hg' := BP.t hg; OK1.load (Has.t rfl) (i := 1) rfl ty55 rfl (Ss' := [_, _]) rfl) rfl ?_
      refine stF rfl rfl (fun hg => have hg' := BP.t hg; OK1.load (Has.t rfl) (i := 2) rfl ty55 rfl (Ss' := [_, _]) rfl) rfl ?_
      refine stF rfl rfl (fun hg => have hg' := BP.t hg; OK1.eq (OK1.call (ref06_Congruent (by first | with_reducible assumption | omega | (simp only [val_words, zv_nf]; omega) | (simp only [val_words, zv_nf, Int.natAbs_natCast]; omega)) (by first | with_reducible assumption | omega | (simp only [val_words, zv_nf]; omega) | (simp only [val_words, zv_nf, Int.natAbs_natCast]; omega)) (by first | with_reducible assumption | omega | (simp only [val_words, zv_nf]; omega) | (simp only [val_words, zv_nf, Int.natAbs_natCast]; omega)) (by first | with_reducible assumption | omega | (simp only [val_words, zv_nf]; omega) | (simp only [val_words, zv_nf, Int.natAbs_natCast]; omega))) (.cons (Has.g rfl hg) (.cons (Has.g rfl hg) (.cons (Has.g rfl hg) .nil)))) (by first | (simp only [val_words, zv_nf]; rfl) | rfl)) rfl ?_
      refine stF rfl rfl (fun hg => have hg' := BP.t hg; OK1.not (Has.g rfl hg)) rfl ?_
      refine st (OK1.pickOr (Has.t rfl) (fun h => Has.g rfl (ng h))) rfl ?_
      refine st (OK1.mv (Has.t rfl)) rfl ?_
      refine stF rfl rfl (fun hg => have hg' := BP.t hg; OK1.mv (Has.t rfl)) rfl ?_
      refine stF rfl rfl (fun hg => have hg' := BP.t hg; OK1.load (Has.t rfl) (i := 3) rfl ty55 rfl (Ss' := [_, _]) rfl) rfl ?_
      refine stF rfl rfl (fun hg => have hg' := BP.t hg; OK1.load (Has.t rfl) (i := 2) rfl ty55 rfl (Ss' := [_, _]) rfl) rfl ?_
      refine stF rfl rfl (fun hg => have hg' := BP.t hg; OK1.call (ref06_Common (by first | with_reducible assumption | omega | (simp only [val_words, zv_nf]; omega) | (simp only [val_words, zv_nf, Int.natAbs_natCast]; omega)) (by first | with_reducible assumption | omega | (simp only [val_words, zv_nf]; omega) | (simp only [val_words, zv_nf, Int.natAbs_natCast]; omega))) (.cons (Has.g rfl hg) (.cons (Has.g rfl hg) .nil))) rfl ?_
      refine stF rfl rfl (fun hg => have hg' := BP.t hg; OK1.eqB (du := un4) rfl (Has.g rfl hg) (Has.g rfl hg)) rfl ?_
      refine st (OK1.pickOr (Has.t rfl) (fun h => Has.g rfl (ng h))) rfl ?_
      refine nl ?_
      refine At.thn (hK11 _ _ ?_); clear hK11
      refine Tri.cv (Cv.wk (.cons (t := 2) (Has.t rfl) (.cons (t := 3) (Has.t rfl) (.cons (t := 4) (Has.t rfl) (.cons (t := 7) (Has.t rfl) (.cons (t := 8) (Has.t rfl) (.cons (t := 71) (Has.t rfl) .nil))))))) ?_
      refine Tri.cond (Has.t rfl) (fun hc3 => ?_) (fun hc3 => ?_)
      · have hc3 := BP.t hc3
        exact absurd hc3 (rests_dead hP hr)
      · have hc3 := BP.f hc3
        skip
        refine Tri.skip ?_
        refine At.thn (hK10 _ _ ?_); clear hK10
        refine Tri.seq fun K12 hK12 => ?_
        refine Tri.dr ?_
        refine DrG.st (i := 0) [] rfl rfl rfl (by kernel_rfl) (OKG.o rfl (OK1.mv (Has.t rfl))) ?_
        refine DrG.st (i := 1) [72] rfl rfl rfl (by kernel_rfl) (OKG.o rfl (OK1.not (Has.t rfl))) ?_
        refine DrG.st (i := 2) [73] rfl rfl rfl (by kernel_rfl) (OKG.o rfl (OK1.mv (Has.t rfl))) ?_
        refine DrG.st (i := 3) [74] rfl rfl rfl (by kernel_rfl) (OKG.T rfl rfl rfl (fun hg => have hg' := BP.t hg; OK1.load (Has.t rfl) (i := 0) rfl ty55 rfl (Ss' := [_, _]) rfl)) ?_
        refine DrG.st (i := 4) [74, 75] rfl rfl rfl (by kernel_rfl) (OKG.T rfl rfl rfl (fun hg => have hg' := BP.t hg; OK1.eq (OK1.call (zint_Sign (by first | with_reducible assumption | omega | (simp only [val_words, zv_nf]; omega) | (simp only [val_words, zv_nf, Int.natAbs_natCast]; omega))) (.cons (Has.g rfl hg) .nil)) (by first | (simp only [val_words, zv_nf]; rfl) | rfl))) ?_
        refine DrG.st (i := 5) [74, 76] rfl rfl rfl (by kernel_rfl) (OKG.T rfl rfl rfl (fun hg => have hg' := BP.t hg; OK1.eqI (Has.g rfl hg) (Has.cI 0 rfl))) ?_
        refine DrG.st (i := 6) [74, 77] rfl rfl rfl (by kernel_rfl) (OKG.o rfl (OK1.pickAnd (Has.t rfl) (fun h => Has.g rfl h))) ?_
        refine DrG.st (i := 7) [78] rfl rfl rfl (by kernel_rfl) (OKG.o rfl (OK1.mv (Has.t rfl))) ?_
        refine DrG.st (i := 8) [79] rfl rfl rfl (by kernel_rfl) (OKG.F rfl rfl rfl (fun hg => have hg' := BP.t hg; OK1.mv (Has.t rfl))) ?_
        refine DrG.st (i := 9) [79, 80] rfl rfl rfl (by kernel_rfl) (OKG.F rfl rfl rfl (fun hg => have hg' := BP.t hg; OK1.mv (Has.g rfl hg))) ?_
        refine DrG.st (i := 10) [81] rfl rfl rfl (by kernel_rfl) (OKG.GT rfl rfl rfl (fun hg => have hg' := BP.t hg; OK1.load (Has.t rfl) (i := 0) rfl ty55 rfl (Ss' := [_, _]) rfl)) ?_
        refine DrG.st (i := 11) [81] rfl rfl rfl (by kernel_rfl) (OKG.GT rfl rfl rfl (fun hg => have hg' := BP.t hg; OK1.load (Has.t rfl) (i := 2) rfl ty55 rfl (Ss' := [_, _]) rfl)) ?_
        refine DrG.st (i := 12) [81, 82, 83] rfl rfl rfl (by kernel_rfl) (OKG.GT rfl rfl rfl (fun hg => have hg' := BP.t hg; OK1.eq (OK1.call (ref06_Within (by first | with_reducible assumption | omega | (simp only [val_words, zv_nf]; omega) | (simp only [val_words, zv_nf, Int.natAbs_natCast]; omega)) (by first | with_reducible assumption | omega | (simp only [val_words, zv_nf]; omega) | (simp only [val_words, zv_nf, Int.natAbs_natCast]; omega))) (.cons (Has.g rfl hg) (.cons (Has.g rfl hg) .nil))) (by first | (simp only [val_words, zv_nf]; rfl) | rfl))) ?_
        refine DrG.st (i := 13) [79, 81, 84] rfl rfl rfl (by kernel_rfl) (OKG.F rfl rfl rfl (fun hg => have hg' := BP.t hg; OK1.pickAnd (Has.g rfl hg) (fun h => Has.g rfl (ga hg h)))) ?_
        refine DrG.st (i := 14) [79, 85] rfl rfl rfl (by kernel_rfl) (OKG.F rfl rfl rfl (fun hg => have hg' := BP.t hg; OK1.mv (Has.g rfl hg))) ?_
        refine DrG.st (i := 15) [86] rfl rfl rfl (by kernel_rfl) (OKG.GT rfl rfl rfl (fun hg => have hg' := BP.t hg; OK1.load (Has.t rfl) (i := 3) rfl ty55 rfl (Ss' := [_, _]) rfl)) ?_
        refine DrG.st (i := 16) [86] rfl rfl rfl (by kernel_rfl) (OKG.GT rfl rfl rfl (fun hg => have hg' := BP.t hg; OK1.load (Has.t rfl) (i := 0) rfl ty55 rfl (Ss' := [_, _]) rfl)) ?_
        refine DrG.st (i := 17) [86, 87, 88] rfl rfl rfl (by kernel_rfl) (OKG.GT rfl rfl rfl (fun hg => have hg' := BP.t hg; OK1.eq (OK1.call (zint_Mul (by first | with_reducible assumption | omega | (simp only [val_words, zv_nf]; omega) | (simp only [val_words, zv_nf, Int.natAbs_natCast]; omega)) (by first | with_reducible assumption | omega | (simp only [val_words, zv_nf]; omega) | (simp only [val_words, zv_nf, Int.natAbs_natCast]; omega))) (.cons (Has.g rfl hg) (.cons (Has.g rfl hg) .nil))) (by first | (simp only [val_words, zv_nf]; rfl) | rfl))) ?_
        refine DrG.st (i := 18) [86] rfl rfl rfl (by kernel_rfl) (OKG.GT rfl rfl rfl (fun hg => have hg' := BP.t hg; OK1.call (zint_Of) (.cons (Has.cI 1 rfl) .nil))) ?_
        refine DrG.st (i := 19) [86] rfl rfl rfl (by kernel_rfl) (OKG.GT rfl rfl rfl (fun hg => have hg' := BP.t hg; OK1.load (Has.t rfl) (i := 2) rfl ty55 rfl (Ss' := [_, _]) rfl)) ?_
        refine DrG.fin (n := 20) mixed (by kernel_rfl) (by kernel_rfl) (by kernel_rfl) ?_
        refine Ops.cv (Cv.wk (.cons (t := 4) (Has.t rfl) (.cons (t := 79) (Has.t rfl) (.cons (t := 86) (Has.t rfl) (.cons (t := 89) (Has.t rfl) (.cons (t := 90) (Has.t rfl) (.cons (t := 91) (Has.t rfl) .nil))))))) ?_
        refine stGT rfl rfl (fun hg => have hg' := BP.t hg; OK1.eq (OK1.call (ref06_Congruent (by first | with_reducible assumption | omega | (simp only [val_words, zv_nf]; omega) | (simp only [val_words, zv_nf, Int.natAbs_natCast]; omega)) (by first | with_reducible assumption | omega | (simp only [val_words, zv_nf]; omega) | (simp only [val_words, zv_nf, Int.natAbs_natCast]; omega)) (by first | with_reducible assumption | omega | (simp only [val_words, zv_nf]; omega) | (simp only [val_words, zv_nf, Int.natAbs_natCast]; omega)) (by first | with_reducible assumption | omega | (simp only [val_words, zv_nf]; omega) | (simp only [val_words, zv_nf, Int.natAbs_natCast]; omega))) (.cons (Has.g rfl hg) (.cons (Has.g rfl hg) (.cons (Has.g rfl hg) .nil)))) (by first | (simp only [val_words, zv_nf]; rfl) | rfl)) rfl ?_
        refine stF rfl rfl (fun hg => have hg' := BP.t hg; OK1.pickAnd (Has.g rfl hg) (fun h => Has.g rfl (ga hg h))) rfl ?_
        refine st (OK1.pickOr (Has.t rfl) (fun h => Has.g rfl (ng h))) rfl ?_
        refine st (OK1.as (Has.t rfl)) rfl ?_
        refine nl ?_
        refine At.thn (hK12 _ _ ?_); clear hK12
        refine Tri.cv (Cv.wk (.cons (t := 4) (Has.t rfl) .nil)) ?_
        refine Tri.ret ?_
        refine rt1 (.inl rfl) Try.results8 rfl (.tmp (Has.t' rfl ?_) .nil)
        all_goals (exact isB_eq (rests_all hP hx))
end Go.Proofs.Ytokhpacdgoebpaa
