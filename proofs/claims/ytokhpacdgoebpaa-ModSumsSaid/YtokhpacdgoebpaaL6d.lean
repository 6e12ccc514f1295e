/- A law of layer 6: sums of exponents, as a contract. -/
import Derived.Test.YtokhpacdgoebpaaMo1
namespace Go.Proofs.Ytokhpacdgoebpaa
open Go.En Go.RowKit
set_option linter.unusedVariables false
set_option maxRecDepth 10000
open Go.Nt
theorem pw1 {a m z : Int} {N : Nat} (hm : 0 < m) (hz : ¬ z < 0) : (if 0 < m ∧ (z < 0 → Nat.gcd a.natAbs m.natAbs = 1) then (if z < 0 then inv a m else a) ^ N % m else 0) = a ^ N % m := by
  rw [if_pos (And.intro hm (fun h => absurd h hz)), if_neg hz]
theorem pw2 {a m z : Int} (hm : 0 < m) (hz : ¬ z < 0) : decide (0 < m ∧ (z < 0 → Nat.gcd a.natAbs m.natAbs = 1)) = true := decide_eq_true (And.intro hm (fun h => absurd h hz))
theorem sums_all {m p q r a : Int} {x y : Nat} (hp : p = a ^ x % m) (hq : q = a ^ y % m) (hr : r = a ^ (x + y) % m) : (true && true && true && decide (m ∣ p * q - r)) = true := by
  have h : m ∣ p * q - r := by
    refine Int.dvd_of_emod_eq_zero ?_
    rw [hp, hq, hr, Int.sub_emod, emod_mul_emod', Int.emod_emod_of_dvd _ (Int.dvd_refl m), ← Int.pow_add, Int.sub_self, Int.zero_emod]
  rw [decide_eq_true h]; rfl


set_option maxHeartbeats 4000000 in
theorem c_ModSums (m : Bool) (xs : List Nat) (n : Bool) (ys : List Nat) (c0 c1 : Nat) : Ctr Try.prog 13 [Flat [isB m, isWords xs], Flat [isB n, isWords ys], Flat [isU c0, isU c1]] (isB true) := by
  refine Ctr.intro Try.func13 rfl (by kernel_rfl) Try.ntmps13 rfl fun w0 F0 => ?_
  refine Tri.cv (Cv.wk (.cons (t := 0) (Has.t rfl) (.cons (t := 1) (Has.t rfl) (.cons (t := 2) (Has.t rfl) .nil)))) ?_
  refine Tri.fact (Has.okZ (Has.t (t := 0) rfl)) fun okz0 => ?_
  refine Tri.fact (Has.okZ (Has.t (t := 1) rfl)) fun okz1 => ?_
  have n0 : (List.length (words (zv m xs).natAbs)) ≤ xs.length := by rw [zv_nw]; exact nw_val okz0.1
  have n1 : (List.length (words (zv n ys).natAbs)) ≤ ys.length := by rw [zv_nw]; exact nw_val okz1.1
  have e0 := zv_nw m xs
  have e1 := zv_nw n ys
  have h11 : (List.length (words (1 : Int).natAbs)) = 1 := nz_one
  obtain ⟨p, hpe⟩ : ∃ p : Int, p = zv m xs ^ c0 % zv n ys := ⟨_, rfl⟩
  obtain ⟨q, hqe⟩ : ∃ q : Int, q = zv m xs ^ c1 % zv n ys := ⟨_, rfl⟩
  obtain ⟨r, hre⟩ : ∃ r : Int, r = zv m xs ^ (c0 + c1) % zv n ys := ⟨_, rfl⟩
  have v0 : val [c0] = c0 := rfl
  have v1 : val [c1] = c1 := rfl
  refine Tri.fact (Has.lt2 (Has.t (t := 2) rfl)) fun le => ?_
  have w0 := nw_small' le.1
  have w1 := nw_small' le.2
  refine Tri.seq fun K1 hK1 => ?_
  refine Tri.region ?_
  refine Ops.box (Has.t rfl) rfl fun b1 => ?_
  refine Ops.box (Has.t rfl) rfl fun b2 => ?_
  refine Ops.box (Has.t rfl) rfl fun b3 => ?_
  refine st (OK1.as (Has.cB false)) rfl ?_
  refine nl ?_
  refine At.thn (hK1 _ _ ?_); clear hK1
  refine Tri.seq fun K2 hK2 => ?_
  refine Tri.seq fun K3 hK3 => ?_
  refine Tri.region ?_
  refine st (OK1.call (law06_awake) .nil) rfl ?_
  refine st (OK1.not (Has.t rfl)) rfl ?_
  refine st (OK1.mv (Has.t rfl)) rfl ?_
  refine stF rfl rfl (fun hg => have hg' := BP.t hg; OK1.load (Has.t rfl) (i := 2) rfl ty55 rfl (Ss' := [_, _]) rfl) rfl ?_
  refine stF rfl rfl (fun hg => have hg' := BP.t hg; OK1.load (Has.t rfl) (i := 1) rfl ty55 rfl (Ss' := [_, _]) rfl) rfl ?_
  refine stF rfl rfl (fun hg => have hg' := BP.t hg; OK1.load (Has.t rfl) (i := 1) rfl ty55 rfl (Ss' := [_, _]) rfl) rfl ?_
  refine stF rfl rfl (fun hg => have hg' := BP.t hg; OK1.call (law06_few) (.cons (Has.g rfl hg) (.cons (Has.g rfl hg) (.cons (Has.g rfl hg) (.cons (Has.cI 2 rfl) .nil))))) rfl ?_
  refine stF rfl rfl (fun hg => have hg' := BP.t hg; OK1.not (Has.g rfl hg)) rfl ?_
  refine st (OK1.pickOr (Has.t rfl) (fun h => Has.g rfl (ng h))) rfl ?_
  refine st (OK1.mv (Has.t rfl)) rfl ?_
  refine stF rfl rfl (fun hg => have hg' := BP.t hg; OK1.load (Has.t rfl) (i := 1) rfl ty55 rfl (Ss' := [_, _]) rfl) rfl ?_
  refine stF rfl rfl (fun hg => have hg' := BP.t hg; OK1.call (zint_Sign (by first | with_reducible assumption | omega | (simp only [val_words, zv_nf]; omega) | (simp only [val_words, zv_nf, Int.natAbs_natCast]; omega))) (.cons (Has.g rfl hg) .nil)) rfl ?_
  refine stF rfl rfl (fun hg => have hg' := BP.t hg; OK1.leI (Has.g rfl hg) (Has.cI 0 rfl)) rfl ?_
  refine st (OK1.pickOr (Has.t rfl) (fun h => Has.g rfl (ng h))) rfl ?_
  refine nl ?_
  refine At.thn (hK3 _ _ ?_); clear hK3
  refine Tri.cv (Cv.wk (.cons (t := 3) (Has.t rfl) (.cons (t := 4) (Has.t rfl) (.cons (t := 5) (Has.t rfl) (.cons (t := 6) (Has.t rfl) (.cons (t := 28) (Has.t rfl) .nil)))))) ?_
  refine Tri.cond (Has.t rfl) (fun hc1 => ?_) (fun hc1 => ?_)
  · have hc1 := BP.t hc1
    refine Tri.seq fun K4 hK4 => ?_
    refine Tri.region ?_
    refine st (OK1.call (law06_awake) .nil) rfl ?_
    refine st (OK1.as (Has.t rfl)) rfl ?_
    refine nl ?_
    refine At.thn (hK4 _ _ ?_); clear hK4
    refine Tri.ret ?_
    refine At.thr ?_
    refine rt1 (.inl rfl) Try.results13 rfl (.tmp (Has.t' rfl ?_) .nil)
    all_goals (rfl)
  · have hc1 := BP.f hc1
    have hP : 0 < zv n ys := (sgn_pos _).1 (by omega)
    have np : (List.length (words p.natAbs)) ≤ (List.length (words (zv n ys).natAbs)) := by rw [hpe]; exact nz_le (Int.emod_nonneg _ (by omega)) (Int.le_of_lt (Int.emod_lt_of_pos _ hP))
    have nq : (List.length (words q.natAbs)) ≤ (List.length (words (zv n ys).natAbs)) := by rw [hqe]; exact nz_le (Int.emod_nonneg _ (by omega)) (Int.le_of_lt (Int.emod_lt_of_pos _ hP))
    have nr : (List.length (words r.natAbs)) ≤ (List.length (words (zv n ys).natAbs)) := by rw [hre]; exact nz_le (Int.emod_nonneg _ (by omega)) (Int.le_of_lt (Int.emod_lt_of_pos _ hP))
    have npq := nz_mul p q
    have z0 : zv false [c0] = (c0 : Int) := zv_false _
    have z1 : zv false [c1] = (c1 : Int) := zv_false _
    have nz := nz_add (c0 : Int) (c1 : Int)
    have na0 : ((c0 : Nat) : Int).natAbs = c0 := Int.natAbs_natCast _
    have na1 : ((c1 : Nat) : Int).natAbs = c1 := Int.natAbs_natCast _
    rw [na0, na1] at nz
    refine Tri.skip ?_
    refine At.thn (hK2 _ _ ?_); clear hK2
    refine Tri.seq fun K5 hK5 => ?_
    refine Tri.drh [true, true, true] (Ms := [_, _, _]) rfl ?_
    refine DrH.st (i := 0) [] rfl rfl rfl (by kernel_rfl) (OKG.o rfl (OK1.ixVar arr81 ty27 (Has.t rfl) (evI (Has.cI 0 rfl)) (by first | with_reducible assumption | omega | (simp only [val_words, zv_nf]; omega) | (simp only [val_words, zv_nf, Int.natAbs_natCast]; omega)) (by first | with_reducible assumption | omega | (simp only [val_words, zv_nf]; omega) | (simp only [val_words, zv_nf, Int.natAbs_natCast]; omega)))) ?_
    refine DrH.st (i := 1) [30] rfl rfl rfl (by kernel_rfl) (OKG.o rfl (OK1.load1 (Has.t rfl) (i := 0) rfl ty27 rfl)) ?_
    refine DrH.st (i := 2) [31] rfl rfl rfl (by kernel_rfl) (OKG.o rfl (OK1.buildS [isU 0] sl22 ty27 zero27 (fun _ _ => ⟨⟨rfl, by decide⟩, trivial⟩) rfl rfl (.cons (Has.t rfl) rfl rfl rfl .nil) rfl (S := isWords [_]) rfl)) ?_
    refine DrH.st (i := 3) [32] rfl rfl rfl (by kernel_rfl) (OKG.o rfl (OK1.build [isB false, SlM isU []] pl55 zero55 (fun _ _ => ⟨rfl, nilM _ _, trivial⟩) (.cons (Has.t rfl) rfl rfl rfl .nil) (Z'' := [_, _]) rfl)) ?_
    refine DrH.st (i := 4) [] rfl rfl rfl (by kernel_rfl) (OKG.o rfl (OK1.ixVar arr81 ty27 (Has.t rfl) (evI (Has.cI 1 rfl)) (by first | with_reducible assumption | omega | (simp only [val_words, zv_nf]; omega) | (simp only [val_words, zv_nf, Int.natAbs_natCast]; omega)) (by first | with_reducible assumption | omega | (simp only [val_words, zv_nf]; omega) | (simp only [val_words, zv_nf, Int.natAbs_natCast]; omega)))) ?_
    refine DrH.st (i := 5) [34] rfl rfl rfl (by kernel_rfl) (OKG.o rfl (OK1.load1 (Has.t rfl) (i := 0) rfl ty27 rfl)) ?_
    refine DrH.st (i := 6) [35] rfl rfl rfl (by kernel_rfl) (OKG.o rfl (OK1.buildS [isU 0] sl22 ty27 zero27 (fun _ _ => ⟨⟨rfl, by decide⟩, trivial⟩) rfl rfl (.cons (Has.t rfl) rfl rfl rfl .nil) rfl (S := isWords [_]) rfl)) ?_
    refine DrH.st (i := 7) [36] rfl rfl rfl (by kernel_rfl) (OKG.o rfl (OK1.build [isB false, SlM isU []] pl55 zero55 (fun _ _ => ⟨rfl, nilM _ _, trivial⟩) (.cons (Has.t rfl) rfl rfl rfl .nil) (Z'' := [_, _]) rfl)) ?_
    refine DrH.als (n1 := 10) (ds := [7, 8]) (zs := [[isB false, SlM isU []], [isB false, SlM isU []]]) rfl (.cons rfl rfl zero55 (fun _ _ => ⟨rfl, nilM _ _, trivial⟩) (.cons rfl rfl zero55 (fun _ _ => ⟨rfl, nilM _ _, trivial⟩) .nil)) (.cons_cons _ (.cons_cons _ (.cons_cons _ .slnil))) (Cs := [_, _]) rfl ?_
    refine DrN.new [33] 0 (Ss' := [_, _]) (Cs' := [cellM [_, _], _]) rfl (by kernel_rfl) (by kernel_rfl) rfl rfl rfl (by kernel_rfl) rfl (Has.t rfl) ty55 rfl rfl rfl rfl ?_
    refine DrN.fin (n := 11) mixed rfl (by kernel_rfl) (by kernel_rfl) (by kernel_rfl) (fun bs hbs => ?_)
    obtain ⟨b4, b5, rfl⟩ := len2 hbs
    refine Ops.memEq (M' := [_, _, _, _, _]) rfl ?_
    refine Ops.cv (Cv.wk (.cons (t := 3) (Has.t rfl) (.cons (t := 4) (Has.t rfl) (.cons (t := 6) (Has.t rfl) (.cons (t := 37) (Has.t rfl) (.cons (t := 7) (Has.op rfl) (.cons (t := 8) (Has.op rfl) .nil))))))) ?_
    refine Ops.store (Has.t rfl) (Has.t rfl) (i := 1) rfl ty55 rfl rfl (Ss' := [_, _]) rfl (M' := [_, (some _, cellM [_, _]), _, _, _]) rfl ?_
    refine nl ?_
    refine At.thn (hK5 _ _ ?_); clear hK5
    refine Tri.seq fun K6 hK6 => ?_
    refine Tri.region ?_
    refine st (OK1.load (Has.t rfl) (i := 4) rfl ty55 rfl (Ss' := [_, _]) rfl) rfl ?_
    refine st (OK1.load (Has.t rfl) (i := 0) rfl ty55 rfl (Ss' := [_, _]) rfl) rfl ?_
    refine st (OK1.load (Has.t rfl) (i := 3) rfl ty55 rfl (Ss' := [_, _]) rfl) rfl ?_
    refine st (OK1.eq (OK1.call (modn_Pow (by omega) (by first | (rw [v0]; omega) | (rw [v1]; omega) | (simp only [val_words]; omega)) (by omega)) (.cons (Has.t rfl) (.cons (Has.t rfl) (.cons (Has.t rfl) .nil)))) ((show isTup [isZ _, isB _] = isTup [isZ p, isB true] from by rw [pw1 hP (by omega), pw2 hP (by omega), hpe]; rfl))) rfl ?_
    refine st (OK1.mv (Has.t rfl)) rfl ?_
    refine st (OK1.ext (Has.t rfl) rfl) rfl ?_
    refine st (OK1.ext (Has.t rfl) rfl) rfl ?_
    refine Ops.alloc [isB false, SlM isU []] zero55 (fun _ _ => ⟨rfl, nilM _ _, trivial⟩) rfl fun b6 => ?_
    refine Ops.store (Has.t rfl) (Has.t rfl) (i := 0) rfl ty55 rfl rfl (Ss' := [_, _]) rfl (M' := [(some _, cellM [_, _]), _, _, _, _, _]) rfl ?_
    refine st (OK1.as (Has.t rfl)) rfl ?_
    refine nl ?_
    refine At.thn (hK6 _ _ ?_); clear hK6
    refine Tri.cv (Cv.wk (.cons (t := 3) (Has.t rfl) (.cons (t := 4) (Has.t rfl) (.cons (t := 6) (Has.t rfl) (.cons (t := 7) (Has.t rfl) (.cons (t := 8) (Has.t rfl) (.cons (t := 9) (Has.t rfl) (.cons (t := 10) (Has.t rfl) .nil)))))))) ?_
    refine Tri.seq fun K7 hK7 => ?_
    refine Tri.region ?_
    refine st (OK1.load (Has.t rfl) (i := 5) rfl ty55 rfl (Ss' := [_, _]) rfl) rfl ?_
    refine st (OK1.load (Has.t rfl) (i := 2) rfl ty55 rfl (Ss' := [_, _]) rfl) rfl ?_
    refine st (OK1.load (Has.t rfl) (i := 4) rfl ty55 rfl (Ss' := [_, _]) rfl) rfl ?_
    refine st (OK1.eq (OK1.call (modn_Pow (by omega) (by first | (rw [v0]; omega) | (rw [v1]; omega) | (simp only [val_words]; omega)) (by omega)) (.cons (Has.t rfl) (.cons (Has.t rfl) (.cons (Has.t rfl) .nil)))) ((show isTup [isZ _, isB _] = isTup [isZ q, isB true] from by rw [pw1 hP (by omega), pw2 hP (by omega), hqe]; rfl))) rfl ?_
    refine st (OK1.mv (Has.t rfl)) rfl ?_
    refine st (OK1.ext (Has.t rfl) rfl) rfl ?_
    refine st (OK1.ext (Has.t rfl) rfl) rfl ?_
    refine Ops.alloc [isB false, SlM isU []] zero55 (fun _ _ => ⟨rfl, nilM _ _, trivial⟩) rfl fun b7 => ?_
    refine Ops.store (Has.t rfl) (Has.t rfl) (i := 0) rfl ty55 rfl rfl (Ss' := [_, _]) rfl (M' := [(some _, cellM [_, _]), _, _, _, _, _, _]) rfl ?_
    refine st (OK1.as (Has.t rfl)) rfl ?_
    refine nl ?_
    refine At.thn (hK7 _ _ ?_); clear hK7
    refine Tri.cv (Cv.wk (.cons (t := 3) (Has.t rfl) (.cons (t := 4) (Has.t rfl) (.cons (t := 6) (Has.t rfl) (.cons (t := 7) (Has.t rfl) (.cons (t := 8) (Has.t rfl) (.cons (t := 9) (Has.t rfl) (.cons (t := 10) (Has.t rfl) (.cons (t := 11) (Has.t rfl) (.cons (t := 12) (Has.t rfl) .nil)))))))))) ?_
    refine Tri.seq fun K8 hK8 => ?_
    refine Tri.drh [true, true, true, true, true, true, true] (Ms := [_, _, _, _, _, _, _]) rfl ?_
    refine DrH.st (i := 0) [] rfl rfl rfl (by kernel_rfl) (OKG.o rfl (OK1.load (Has.t rfl) (i := 6) rfl ty55 rfl (Ss' := [_, _]) rfl)) ?_
    refine DrH.st (i := 1) [] rfl rfl rfl (by kernel_rfl) (OKG.o rfl (OK1.load (Has.t rfl) (i := 2) rfl ty55 rfl (Ss' := [_, _]) rfl)) ?_
    refine DrH.st (i := 2) [] rfl rfl rfl (by kernel_rfl) (OKG.o rfl (OK1.load (Has.t rfl) (i := 3) rfl ty55 rfl (Ss' := [_, _]) rfl)) ?_
    refine DrH.st (i := 3) [54, 55] rfl rfl rfl (by kernel_rfl) (OKG.o rfl (OK1.eq (OK1.call (zint_Add (by rw [v0]; omega) (by rw [v1]; omega)) (.cons (Has.t rfl) (.cons (Has.t rfl) .nil))) ((show isZ _ = isZ ((c0 : Int) + (c1 : Int)) from isZ_eq (by rw [z0, z1]))))) ?_
    refine DrH.st (i := 4) [] rfl rfl rfl (by kernel_rfl) (OKG.o rfl (OK1.load (Has.t rfl) (i := 5) rfl ty55 rfl (Ss' := [_, _]) rfl)) ?_
    refine DrH.st (i := 5) [53, 56, 57] rfl rfl rfl (by kernel_rfl) (OKG.o rfl (OK1.eq (OK1.call (modn_Pow (by omega) (by first | (rw [v0]; omega) | (rw [v1]; omega) | (simp only [val_words]; omega)) (by omega)) (.cons (Has.t rfl) (.cons (Has.t rfl) (.cons (Has.t rfl) .nil)))) ((show isTup [isZ _, isB _] = isTup [isZ r, isB true] from by simp only [zv_nf, val_words]; rw [pw1 hP (by omega), pw2 hP (by omega), show ((c0 : Int) + (c1 : Int)).natAbs = c0 + c1 by omega, hre])))) ?_
    refine DrH.st (i := 6) [58] rfl rfl rfl (by kernel_rfl) (OKG.o rfl (OK1.mv (Has.t rfl))) ?_
    refine DrH.st (i := 7) [52] rfl rfl rfl (by kernel_rfl) (OKG.o rfl (OK1.ext (Has.t rfl) rfl)) ?_
    refine DrH.st (i := 8) [52] rfl rfl rfl (by kernel_rfl) (OKG.o rfl (OK1.ext (Has.t rfl) rfl)) ?_
    refine DrH.als (n1 := 10) (ds := [13]) (zs := [[isB false, SlM isU []]]) rfl (.cons rfl rfl zero55 (fun _ _ => ⟨rfl, nilM _ _, trivial⟩) .nil) (.cons_cons _ (.cons_cons _ (.cons_cons _ (.cons_cons _ (.cons_cons _ (.cons_cons _ (.cons_cons _ .slnil))))))) (Cs := [_]) rfl ?_
    refine DrN.new [59] 0 (Ss' := [_, _]) (Cs' := [cellM [_, _]]) rfl (by kernel_rfl) (by kernel_rfl) rfl rfl rfl (by kernel_rfl) rfl (Has.t rfl) ty55 rfl rfl rfl rfl ?_
    refine DrN.fin (n := 11) mixed rfl (by kernel_rfl) (by kernel_rfl) (by kernel_rfl) (fun bs hbs => ?_)
    obtain ⟨b8, rfl⟩ := len1 hbs
    refine Ops.memEq (M' := [_, _, _, _, _, _, _, _]) rfl ?_
    refine Ops.cv (Cv.wk (.cons (t := 4) (Has.t rfl) (.cons (t := 6) (Has.t rfl) (.cons (t := 9) (Has.t rfl) (.cons (t := 10) (Has.t rfl) (.cons (t := 11) (Has.t rfl) (.cons (t := 12) (Has.t rfl) (.cons (t := 60) (Has.t rfl) (.cons (t := 13) (Has.op rfl) .nil))))))))) ?_
    refine st (OK1.as (Has.t rfl)) rfl ?_
    refine nl ?_
    refine At.thn (hK8 _ _ ?_); clear hK8
    refine Tri.seq fun K9 hK9 => ?_
    refine Tri.dr ?_
    refine DrG.st (i := 0) [] rfl rfl rfl (by kernel_rfl) (OKG.o rfl (OK1.mv (Has.t rfl))) ?_
    refine DrG.st (i := 1) [61] rfl rfl rfl (by kernel_rfl) (OKG.o rfl (OK1.mv (Has.t rfl))) ?_
    refine DrG.st (i := 2) [62] rfl rfl rfl (by kernel_rfl) (OKG.T rfl rfl rfl (fun hg => have hg' := BP.t hg; OK1.mv (Has.t rfl))) ?_
    refine DrG.st (i := 3) [62, 63] rfl rfl rfl (by kernel_rfl) (OKG.o rfl (OK1.pickAnd (Has.t rfl) (fun h => Has.g rfl h))) ?_
    refine DrG.st (i := 4) [64] rfl rfl rfl (by kernel_rfl) (OKG.o rfl (OK1.mv (Has.t rfl))) ?_
    refine DrG.st (i := 5) [65] rfl rfl rfl (by kernel_rfl) (OKG.T rfl rfl rfl (fun hg => have hg' := BP.t hg; OK1.mv (Has.t rfl))) ?_
    refine DrG.st (i := 6) [65, 66] rfl rfl rfl (by kernel_rfl) (OKG.o rfl (OK1.pickAnd (Has.t rfl) (fun h => Has.g rfl h))) ?_
    refine DrG.st (i := 7) [67] rfl rfl rfl (by kernel_rfl) (OKG.o rfl (OK1.mv (Has.t rfl))) ?_
    refine DrG.st (i := 8) [68] rfl rfl rfl (by kernel_rfl) (OKG.T rfl rfl rfl (fun hg => have hg' := BP.t hg; OK1.load (Has.t rfl) (i := 2) rfl ty55 rfl (Ss' := [_, _]) rfl)) ?_
    refine DrG.st (i := 9) [68] rfl rfl rfl (by kernel_rfl) (OKG.T rfl rfl rfl (fun hg => have hg' := BP.t hg; OK1.load (Has.t rfl) (i := 1) rfl ty55 rfl (Ss' := [_, _]) rfl)) ?_
    refine DrG.st (i := 10) [68, 69, 70] rfl rfl rfl (by kernel_rfl) (OKG.T rfl rfl rfl (fun hg => have hg' := BP.t hg; OK1.eq (OK1.call (zint_Mul (by first | with_reducible assumption | omega | (simp only [val_words, zv_nf]; omega) | (simp only [val_words, zv_nf, Int.natAbs_natCast]; omega)) (by first | with_reducible assumption | omega | (simp only [val_words, zv_nf]; omega) | (simp only [val_words, zv_nf, Int.natAbs_natCast]; omega))) (.cons (Has.g rfl hg) (.cons (Has.g rfl hg) .nil))) (by first | (simp only [val_words, zv_nf]; rfl) | rfl))) ?_
    refine DrG.st (i := 11) [68] rfl rfl rfl (by kernel_rfl) (OKG.T rfl rfl rfl (fun hg => have hg' := BP.t hg; OK1.load (Has.t rfl) (i := 0) rfl ty55 rfl (Ss' := [_, _]) rfl)) ?_
    refine DrG.st (i := 12) [68] rfl rfl rfl (by kernel_rfl) (OKG.T rfl rfl rfl (fun hg => have hg' := BP.t hg; OK1.load (Has.t rfl) (i := 6) rfl ty55 rfl (Ss' := [_, _]) rfl)) ?_
    refine DrG.fin (n := 13) mixed (by kernel_rfl) (by kernel_rfl) (by kernel_rfl) ?_
    refine Ops.cv (Cv.wk (.cons (t := 6) (Has.t rfl) (.cons (t := 68) (Has.t rfl) (.cons (t := 71) (Has.t rfl) (.cons (t := 72) (Has.t rfl) (.cons (t := 73) (Has.t rfl) .nil)))))) ?_
    refine stT rfl rfl (fun hg => have hg' := BP.t hg; OK1.eq (OK1.call (ref06_Congruent (by first | with_reducible assumption | omega | (simp only [val_words, zv_nf]; omega) | (simp only [val_words, zv_nf, Int.natAbs_natCast]; omega)) (by first | with_reducible assumption | omega | (simp only [val_words, zv_nf]; omega) | (simp only [val_words, zv_nf, Int.natAbs_natCast]; omega)) (by first | with_reducible assumption | omega | (simp only [val_words, zv_nf]; omega) | (simp only [val_words, zv_nf, Int.natAbs_natCast]; omega)) (by first | with_reducible assumption | omega | (simp only [val_words, zv_nf]; omega) | (simp only [val_words, zv_nf, Int.natAbs_natCast]; omega))) (.cons (Has.g rfl hg) (.cons (Has.g rfl hg) (.cons (Has.g rfl hg) .nil)))) (by first | (simp only [val_words, zv_nf]; rfl) | rfl)) rfl ?_
    refine st (OK1.pickAnd (Has.t rfl) (fun h => Has.g rfl h)) rfl ?_
    refine st (OK1.as (Has.t rfl)) rfl ?_
    refine nl ?_
    refine At.thn (hK9 _ _ ?_); clear hK9
    refine Tri.cv (Cv.wk (.cons (t := 6) (Has.t rfl) .nil)) ?_
    refine Tri.ret ?_
    refine rt1 (.inl rfl) Try.results13 rfl (.tmp (Has.t' rfl ?_) .nil)
    all_goals (exact isB_eq (sums_all hpe hqe hre))
end Go.Proofs.Ytokhpacdgoebpaa
