/- A law of layer 6: powers, as a contract. -/
import Derived.Test.YtokhpacdgoebpaaMo1
namespace Go.Proofs.Ytokhpacdgoebpaa
open Go.En Go.RowKit
set_option linter.unusedVariables false
set_option maxRecDepth 10000
open Go.Nt
theorem nz_pow (b : Int) : ∀ i : Nat, (List.length (words (b ^ i).natAbs)) ≤ (List.length (words b.natAbs)) * i + 1
  | 0 => by rw [Int.pow_zero]; show (List.length (words 1)) ≤ _; rw [nw_one]; omega
  | i + 1 => by
    rw [Int.pow_succ]
    have := nz_mul (b ^ i) b
    have := nz_pow b i
    rw [Nat.mul_succ]; omega
theorem nw_pw (a m z : Int) (N : Nat) : (List.length (words (if 0 < m ∧ (z < 0 → Nat.gcd a.natAbs m.natAbs = 1) then (if z < 0 then inv a m else a) ^ N % m else 0).natAbs)) ≤ (List.length (words m.natAbs)) := by
  split
  · rename_i h; exact nz_le (Int.emod_nonneg _ (by omega)) (Int.le_of_lt (Int.emod_lt_of_pos _ h.1))
  · rw [Int.natAbs_zero, words_zero]; exact Nat.zero_le _
theorem pow_none {a m z P : Int} {ok : Bool} {N : Nat} (hm : ¬ 0 < m) (hok : ok = decide (0 < m ∧ (z < 0 → Nat.gcd a.natAbs m.natAbs = 1))) (hP : P = if 0 < m ∧ (z < 0 → Nat.gcd a.natAbs m.natAbs = 1) then (if z < 0 then inv a m else a) ^ N % m else 0) : (!ok && decide (sgn P = 0)) = true := by
  rw [decide_eq_false (fun e => hm e.1)] at hok
  rw [if_neg (fun e => hm e.1)] at hP
  subst hok; subst hP; rfl
theorem pow_noinv {a m z P : Int} {ok : Bool} {N : Nat} (hg : ¬ Nat.gcd a.natAbs m.natAbs = 1) (hz : z < 0) (hok : ok = decide (0 < m ∧ (z < 0 → Nat.gcd a.natAbs m.natAbs = 1))) (hP : P = if 0 < m ∧ (z < 0 → Nat.gcd a.natAbs m.natAbs = 1) then (if z < 0 then inv a m else a) ^ N % m else 0) : (!ok && decide (sgn P = 0)) = true := by
  rw [decide_eq_false (fun e => hg (e.2 hz))] at hok
  rw [if_neg (fun e => hg (e.2 hz))] at hP
  subst hok; subst hP; rfl
theorem pow_fin {P m b : Int} {N : Nat} (hm : 0 < m) (hP : P = b ^ N % m) : (true && decide (0 ≤ P ∧ P < m) && decide (m ∣ P - b ^ N)) = true := by
  have h1 := Int.emod_nonneg (b ^ N) (show m ≠ 0 by omega)
  have h2 := Int.emod_lt_of_pos (b ^ N) hm
  have h3 : m ∣ P - b ^ N := by
    have := Int.mul_ediv_add_emod (b ^ N) m
    exact ⟨-(b ^ N / m), by rw [hP, Int.mul_neg]; omega⟩
  rw [decide_eq_true (show 0 ≤ P ∧ P < m by omega), decide_eq_true h3]; rfl
theorem pow_all {a m z P : Int} {ok : Bool} {N : Nat} (hm : 0 < m) (hz : z < 0) (hg : Nat.gcd a.natAbs m.natAbs = 1) (hok : ok = decide (0 < m ∧ (z < 0 → Nat.gcd a.natAbs m.natAbs = 1))) (hP : P = if 0 < m ∧ (z < 0 → Nat.gcd a.natAbs m.natAbs = 1) then (if z < 0 then inv a m else a) ^ N % m else 0) : (ok && decide (0 ≤ P ∧ P < m) && decide (m ∣ P - inv a m ^ N)) = true := by
  rw [decide_eq_true (And.intro hm (fun _ => hg))] at hok
  rw [if_pos (And.intro hm (fun _ => hg)), if_pos hz] at hP
  subst hok; exact pow_fin hm hP
theorem pow_all0 {a m z P : Int} {ok : Bool} {N : Nat} (hm : 0 < m) (hz : ¬ z < 0) (hok : ok = decide (0 < m ∧ (z < 0 → Nat.gcd a.natAbs m.natAbs = 1))) (hP : P = if 0 < m ∧ (z < 0 → Nat.gcd a.natAbs m.natAbs = 1) then (if z < 0 then inv a m else a) ^ N % m else 0) : (ok && decide (0 ≤ P ∧ P < m) && decide (m ∣ P - a ^ N)) = true := by
  rw [decide_eq_true (And.intro hm (fun h => absurd h hz))] at hok
  rw [if_pos (And.intro hm (fun h => absurd h hz)), if_neg hz] at hP
  subst hok; exact pow_fin hm hP


set_option maxHeartbeats 4000000 in
theorem c_ModPowers (m : Bool) (xs : List Nat) (n : Bool) (ys : List Nat) (e : Int) : Ctr Try.prog 12 [Flat [isB m, isWords xs], Flat [isB n, isWords ys], isK .i8 e] (isB true) := by
  refine Ctr.intro Try.func12 rfl (by kernel_rfl) Try.ntmps12 rfl fun w0 F0 => ?_
  refine Tri.cv (Cv.wk (.cons (t := 0) (Has.t rfl) (.cons (t := 1) (Has.t rfl) (.cons (t := 2) (Has.t rfl) .nil)))) ?_
  refine Tri.fact (Has.okZ (Has.t (t := 0) rfl)) fun okz0 => ?_
  refine Tri.fact (Has.okZ (Has.t (t := 1) rfl)) fun okz1 => ?_
  refine Tri.fact (Has.rngK (Has.t (t := 2) rfl)) fun lt2 => ?_
  simp only [IntKind.min, IntKind.max, IntKind.signed, IntKind.bits] at lt2
  have hN : (e.tmod 13).natAbs ≤ 12 := by rw [Int.natAbs_tmod]; exact Nat.le_of_lt_succ (Nat.mod_lt _ (by decide))
  have n0 : (List.length (words (zv m xs).natAbs)) ≤ xs.length := by rw [zv_nw]; exact nw_val okz0.1
  have n1 : (List.length (words (zv n ys).natAbs)) ≤ ys.length := by rw [zv_nw]; exact nw_val okz1.1
  have e0 := zv_nw m xs
  have e1 := zv_nw n ys
  have h11 : (List.length (words (1 : Int).natAbs)) = 1 := nz_one
  obtain ⟨P, hPe⟩ : ∃ P : Int, P = (if (0 < zv n ys ∧ ((e.tmod 13) < 0 → Nat.gcd (zv m xs).natAbs (zv n ys).natAbs = 1)) then (if (e.tmod 13) < 0 then inv (zv m xs) (zv n ys) else zv m xs) ^ (e.tmod 13).natAbs % zv n ys else 0) := ⟨_, rfl⟩
  obtain ⟨ok, hok⟩ : ∃ ok, ok = decide (0 < zv n ys ∧ ((e.tmod 13) < 0 → Nat.gcd (zv m xs).natAbs (zv n ys).natAbs = 1)) := ⟨_, rfl⟩
  have hnw1 : (List.length (words (e.tmod 13).natAbs)) ≤ 1 := nw_small' (by omega)
  have nP : (List.length (words P.natAbs)) ≤ (List.length (words (zv n ys).natAbs)) := by rw [hPe]; exact nw_pw _ _ _ _
  refine Tri.seq fun K1 hK1 => ?_
  refine Tri.region ?_
  refine Ops.box (Has.t rfl) rfl fun b1 => ?_
  refine Ops.box (Has.t rfl) rfl fun b2 => ?_
  refine st (OK1.as (Has.cB false)) rfl ?_
  refine nl ?_
  refine At.thn (hK1 _ _ ?_); clear hK1
  refine Tri.seq fun K2 hK2 => ?_
  refine Tri.seq fun K3 hK3 => ?_
  refine Tri.region ?_
  refine st (OK1.call (law06_awake) .nil) rfl ?_
  refine st (OK1.not (Has.t rfl)) rfl ?_
  refine st (OK1.mv (Has.t rfl)) rfl ?_
  refine stF rfl rfl (fun hg => have hg' := BP.t hg; OK1.load (Has.t rfl) (i := 1) rfl ty55 rfl (Ss' := [_, _]) rfl) rfl ?_
  refine stF rfl rfl (fun hg => have hg' := BP.t hg; OK1.load (Has.t rfl) (i := 0) rfl ty55 rfl (Ss' := [_, _]) rfl) rfl ?_
  refine stF rfl rfl (fun hg => have hg' := BP.t hg; OK1.load (Has.t rfl) (i := 0) rfl ty55 rfl (Ss' := [_, _]) rfl) rfl ?_
  refine stF rfl rfl (fun hg => have hg' := BP.t hg; OK1.call (law06_few) (.cons (Has.g rfl hg) (.cons (Has.g rfl hg) (.cons (Has.g rfl hg) (.cons (Has.cI 2 rfl) .nil))))) rfl ?_
  refine stF rfl rfl (fun hg => have hg' := BP.t hg; OK1.not (Has.g rfl hg)) rfl ?_
  refine st (OK1.pickOr (Has.t rfl) (fun h => Has.g rfl (ng h))) rfl ?_
  refine nl ?_
  refine At.thn (hK3 _ _ ?_); clear hK3
  refine Tri.cv (Cv.wk (.cons (t := 2) (Has.t rfl) (.cons (t := 3) (Has.t rfl) (.cons (t := 4) (Has.t rfl) (.cons (t := 6) (Has.t rfl) (.cons (t := 23) (Has.t rfl) .nil)))))) ?_
  refine Tri.cond (Has.t rfl) (fun hc1 => ?_) (fun hc1 => ?_)
  · have hc1 := BP.t hc1
    refine Tri.seq fun K4 hK4 => ?_
    refine Tri.region ?_
    refine st (OK1.call (law06_awake) .nil) rfl ?_
    refine st (OK1.as (Has.t rfl)) rfl ?_
    refine nl ?_
    refine At.thn (hK4 _ _ ?_); clear hK4
    refine Tri.ret ?_
    refine At.thr ?_
    refine rt1 (.inl rfl) Try.results12 rfl (.tmp (Has.t' rfl ?_) .nil)
    all_goals (rfl)
  · have hc1 := BP.f hc1
    refine Tri.skip ?_
    refine At.thn (hK2 _ _ ?_); clear hK2
    refine Tri.seq fun K5 hK5 => ?_
    refine Tri.region ?_
    refine st (OK1.mv (Has.t rfl)) rfl ?_
    refine st (OK1.remKt (Has.t rfl) (Has.cK .i8 13 rfl) (by omega)) rfl ?_
    refine st (OK1.convKI un78 un3 (Has.t rfl) (by first | with_reducible assumption | omega | (simp only [val_words, zv_nf]; omega) | (simp only [val_words, zv_nf, Int.natAbs_natCast]; omega)) (by first | with_reducible assumption | omega | (simp only [val_words, zv_nf]; omega) | (simp only [val_words, zv_nf, Int.natAbs_natCast]; omega))) rfl ?_
    refine st (OK1.as (Has.t rfl)) rfl ?_
    refine nl ?_
    refine At.thn (hK5 _ _ ?_); clear hK5
    refine Tri.cv (Cv.wk (.cons (t := 3) (Has.t rfl) (.cons (t := 4) (Has.t rfl) (.cons (t := 6) (Has.t rfl) (.cons (t := 7) (Has.t rfl) .nil))))) ?_
    refine Tri.seq fun K6 hK6 => ?_
    refine Tri.drh [true, true] (Ms := [_, _]) rfl ?_
    refine DrH.st (i := 0) [] rfl rfl rfl (by kernel_rfl) (OKG.o rfl (OK1.load (Has.t rfl) (i := 1) rfl ty55 rfl (Ss' := [_, _]) rfl)) ?_
    refine DrH.st (i := 1) [] rfl rfl rfl (by kernel_rfl) (OKG.o rfl (OK1.mv (Has.t rfl))) ?_
    refine DrH.st (i := 2) [30] rfl rfl rfl (by kernel_rfl) (OKG.o rfl (OK1.call (zint_Of) (.cons (Has.t rfl) .nil))) ?_
    refine DrH.st (i := 3) [] rfl rfl rfl (by kernel_rfl) (OKG.o rfl (OK1.load (Has.t rfl) (i := 0) rfl ty55 rfl (Ss' := [_, _]) rfl)) ?_
    refine DrH.st (i := 4) [29, 31, 32] rfl rfl rfl (by kernel_rfl) (OKG.o rfl (OK1.eq (OK1.call (modn_Pow (by omega) (by simp only [val_words]; omega) (by omega)) (.cons (Has.t rfl) (.cons (Has.t rfl) (.cons (Has.t rfl) .nil)))) ((show isTup [isZ _, isB _] = isTup [isZ P, isB ok] from by simp only [zv_nf, val_words]; rw [← hPe, ← hok])))) ?_
    refine DrH.st (i := 5) [33] rfl rfl rfl (by kernel_rfl) (OKG.o rfl (OK1.mv (Has.t rfl))) ?_
    refine DrH.st (i := 6) [28] rfl rfl rfl (by kernel_rfl) (OKG.o rfl (OK1.ext (Has.t rfl) rfl)) ?_
    refine DrH.st (i := 7) [28] rfl rfl rfl (by kernel_rfl) (OKG.o rfl (OK1.ext (Has.t rfl) rfl)) ?_
    refine DrH.als (n1 := 9) (ds := [8]) (zs := [[isB false, SlM isU []]]) rfl (.cons rfl rfl zero55 (fun _ _ => ⟨rfl, nilM _ _, trivial⟩) .nil) (.cons_cons _ (.cons_cons _ .slnil)) (Cs := [_]) rfl ?_
    refine DrN.new [34] 0 (Ss' := [_, _]) (Cs' := [cellM [_, _]]) rfl (by kernel_rfl) (by kernel_rfl) rfl rfl rfl (by kernel_rfl) rfl (Has.t rfl) ty55 rfl rfl rfl rfl ?_
    refine DrN.fin (n := 10) mixed rfl (by kernel_rfl) (by kernel_rfl) (by kernel_rfl) (fun bs hbs => ?_)
    obtain ⟨b3, rfl⟩ := len1 hbs
    refine Ops.memEq (M' := [_, _, _]) rfl ?_
    refine Ops.cv (Cv.wk (.cons (t := 3) (Has.t rfl) (.cons (t := 4) (Has.t rfl) (.cons (t := 6) (Has.t rfl) (.cons (t := 7) (Has.t rfl) (.cons (t := 35) (Has.t rfl) (.cons (t := 8) (Has.op rfl) .nil))))))) ?_
    refine st (OK1.as (Has.t rfl)) rfl ?_
    refine nl ?_
    refine At.thn (hK6 _ _ ?_); clear hK6
    refine Tri.seq fun K7 hK7 => ?_
    refine Tri.seq fun K8 hK8 => ?_
    refine Tri.region ?_
    refine st (OK1.load (Has.t rfl) (i := 1) rfl ty55 rfl (Ss' := [_, _]) rfl) rfl ?_
    refine st (OK1.call (zint_Sign (by first | with_reducible assumption | omega | (simp only [val_words, zv_nf]; omega) | (simp only [val_words, zv_nf, Int.natAbs_natCast]; omega))) (.cons (Has.t rfl) .nil)) rfl ?_
    refine st (OK1.leI (Has.t rfl) (Has.cI 0 rfl)) rfl ?_
    refine nl ?_
    refine At.thn (hK8 _ _ ?_); clear hK8
    refine Tri.cond (Has.t rfl) (fun hc2 => ?_) (fun hc2 => ?_)
    · have hc2 := BP.t hc2
      have hM : ¬ 0 < zv n ys := fun e => by have := (sgn_pos _).2 e; omega
      refine Tri.seq fun K9 hK9 => ?_
      refine Tri.region ?_
      refine st (OK1.mv (Has.t rfl)) rfl ?_
      refine st (OK1.not (Has.t rfl)) rfl ?_
      refine st (OK1.mv (Has.t rfl)) rfl ?_
      refine stT rfl rfl (fun hg => have hg' := BP.t hg; OK1.load (Has.t rfl) (i := 0) rfl ty55 rfl (Ss' := [_, _]) rfl) rfl ?_
      refine stT rfl rfl (fun hg => have hg' := BP.t hg; OK1.eq (OK1.call (zint_Sign (by first | with_reducible assumption | omega | (simp only [val_words, zv_nf]; omega) | (simp only [val_words, zv_nf, Int.natAbs_natCast]; omega))) (.cons (Has.g rfl hg) .nil)) (by first | (simp only [val_words, zv_nf]; rfl) | rfl)) rfl ?_
      refine stT rfl rfl (fun hg => have hg' := BP.t hg; OK1.eqI (Has.g rfl hg) (Has.cI 0 rfl)) rfl ?_
      refine st (OK1.pickAnd (Has.t rfl) (fun h => Has.g rfl h)) rfl ?_
      refine st (OK1.as (Has.t rfl)) rfl ?_
      refine nl ?_
      refine At.thn (hK9 _ _ ?_); clear hK9
      refine Tri.cv (Cv.wk (.cons (t := 3) (Has.t rfl) (.cons (t := 4) (Has.t rfl) (.cons (t := 6) (Has.t rfl) (.cons (t := 7) (Has.t rfl) (.cons (t := 8) (Has.t rfl) (.cons (t := 9) (Has.t rfl) .nil))))))) ?_
      refine Tri.ret ?_
      refine At.thr ?_
      refine rt1 (.inl rfl) Try.results12 rfl (.tmp (Has.t' rfl ?_) .nil)
      all_goals (exact isB_eq (pow_none hM hok hPe))
    · have hc2 := BP.f hc2
      have hP : 0 < zv n ys := (sgn_pos _).1 (by omega)
      refine Tri.skip ?_
      refine At.thn (hK7 _ _ ?_); clear hK7
      refine Tri.seq fun K10 hK10 => ?_
      refine Tri.region ?_
      refine st (OK1.load (Has.t rfl) (i := 2) rfl ty55 rfl (Ss' := [_, _]) rfl) rfl ?_
      refine Ops.alloc [isB false, SlM isU []] zero55 (fun _ _ => ⟨rfl, nilM _ _, trivial⟩) rfl fun b4 => ?_
      refine Ops.store (Has.t rfl) (Has.t rfl) (i := 0) rfl ty55 rfl rfl (Ss' := [_, _]) rfl (M' := [(some _, cellM [_, _]), _, _, _]) rfl ?_
      refine nl ?_
      refine At.thn (hK10 _ _ ?_); clear hK10
      refine Tri.cv (Cv.wk (.cons (t := 3) (Has.t rfl) (.cons (t := 4) (Has.t rfl) (.cons (t := 6) (Has.t rfl) (.cons (t := 7) (Has.t rfl) (.cons (t := 8) (Has.t rfl) (.cons (t := 9) (Has.t rfl) (.cons (t := 10) (Has.t rfl) .nil)))))))) ?_
      refine Tri.seq fun K11 hK11 => ?_
      refine Tri.seq fun K12 hK12 => ?_
      refine Tri.region ?_
      refine st (OK1.mv (Has.t rfl)) rfl ?_
      refine st (OK1.ltI (Has.t rfl) (Has.cI 0 rfl)) rfl ?_
      refine nl ?_
      refine At.thn (hK12 _ _ ?_); clear hK12
      refine Tri.cond (Has.t rfl) (fun hc3 => ?_) (fun hc3 => ?_)
      · have hc3 := BP.t hc3
        refine Tri.seq fun K13 hK13 => ?_
        refine Tri.region ?_
        refine st (OK1.load (Has.t rfl) (i := 3) rfl ty55 rfl (Ss' := [_, _]) rfl) rfl ?_
        refine st (OK1.load (Has.t rfl) (i := 2) rfl ty55 rfl (Ss' := [_, _]) rfl) rfl ?_
        refine st (OK1.call (modn_Inverse (by first | with_reducible assumption | omega | (simp only [val_words, zv_nf]; omega) | (simp only [val_words, zv_nf, Int.natAbs_natCast]; omega)) (by first | with_reducible assumption | omega | (simp only [val_words, zv_nf]; omega) | (simp only [val_words, zv_nf, Int.natAbs_natCast]; omega))) (.cons (Has.t rfl) (.cons (Has.t rfl) .nil))) rfl ?_
        refine st (OK1.mv (Has.t rfl)) rfl ?_
        refine st (OK1.ext (Has.t rfl) rfl) rfl ?_
        refine st (OK1.ext (Has.t rfl) rfl) rfl ?_
        refine Ops.alloc [isB false, SlM isU []] zero55 (fun _ _ => ⟨rfl, nilM _ _, trivial⟩) rfl fun b5 => ?_
        refine Ops.store (Has.t rfl) (Has.t rfl) (i := 0) rfl ty55 rfl rfl (Ss' := [_, _]) rfl (M' := [(some _, cellM [_, _]), _, _, _, _]) rfl ?_
        refine st (OK1.as (Has.t rfl)) rfl ?_
        refine nl ?_
        refine At.thn (hK13 _ _ ?_); clear hK13
        refine Tri.cv (Cv.wk (.cons (t := 4) (Has.t rfl) (.cons (t := 6) (Has.t rfl) (.cons (t := 7) (Has.t rfl) (.cons (t := 8) (Has.t rfl) (.cons (t := 9) (Has.t rfl) (.cons (t := 10) (Has.t rfl) (.cons (t := 11) (Has.t rfl) (.cons (t := 12) (Has.t rfl) .nil))))))))) ?_
        refine Tri.seq fun K14 hK14 => ?_
        refine Tri.seq fun K15 hK15 => ?_
        refine Tri.region ?_
        refine st (OK1.mv (Has.t rfl)) rfl ?_
        refine st (OK1.not (Has.t rfl)) rfl ?_
        refine nl ?_
        refine At.thn (hK15 _ _ ?_); clear hK15
        refine Tri.cond (Has.t rfl) (fun hc4 => ?_) (fun hc4 => ?_)
        · have hc4 := BP.t hc4
          have hG : ¬ Nat.gcd (zv m xs).natAbs (zv n ys).natAbs = 1 := fun e => hc4 ⟨hP, e⟩
          refine Tri.seq fun K16 hK16 => ?_
          refine Tri.region ?_
          refine st (OK1.mv (Has.t rfl)) rfl ?_
          refine st (OK1.not (Has.t rfl)) rfl ?_
          refine st (OK1.mv (Has.t rfl)) rfl ?_
          refine stT rfl rfl (fun hg => have hg' := BP.t hg; OK1.load (Has.t rfl) (i := 2) rfl ty55 rfl (Ss' := [_, _]) rfl) rfl ?_
          refine stT rfl rfl (fun hg => have hg' := BP.t hg; OK1.eq (OK1.call (zint_Sign (by first | with_reducible assumption | omega | (simp only [val_words, zv_nf]; omega) | (simp only [val_words, zv_nf, Int.natAbs_natCast]; omega))) (.cons (Has.g rfl hg) .nil)) (by first | (simp only [val_words, zv_nf]; rfl) | rfl)) rfl ?_
          refine stT rfl rfl (fun hg => have hg' := BP.t hg; OK1.eqI (Has.g rfl hg) (Has.cI 0 rfl)) rfl ?_
          refine st (OK1.pickAnd (Has.t rfl) (fun h => Has.g rfl h)) rfl ?_
          refine st (OK1.as (Has.t rfl)) rfl ?_
          refine nl ?_
          refine At.thn (hK16 _ _ ?_); clear hK16
          refine Tri.cv (Cv.wk (.cons (t := 4) (Has.t rfl) (.cons (t := 6) (Has.t rfl) (.cons (t := 7) (Has.t rfl) (.cons (t := 8) (Has.t rfl) (.cons (t := 9) (Has.t rfl) (.cons (t := 10) (Has.t rfl) (.cons (t := 11) (Has.t rfl) .nil)))))))) ?_
          refine Tri.ret ?_
          refine At.thr ?_
          refine At.thr ?_
          refine rt1 (.inl rfl) Try.results12 rfl (.tmp (Has.t' rfl ?_) .nil)
          all_goals (exact isB_eq (pow_noinv hG (by omega) hok hPe))
        · have hc4 := BP.f hc4
          have hG : Nat.gcd (zv m xs).natAbs (zv n ys).natAbs = 1 := hc4.2
          have hin := inv_spec hP hG
          have hinn := nz_le hin.1 (Int.le_of_lt hin.2.1)
          rw [if_pos (show 0 < zv n ys ∧ _ from ⟨hP, hG⟩)]
          refine Tri.skip ?_
          refine At.thn (hK14 _ _ ?_); clear hK14
          refine Tri.seq fun K17 hK17 => ?_
          refine Tri.region ?_
          refine st (OK1.load (Has.t rfl) (i := 0) rfl ty55 rfl (Ss' := [_, _]) rfl) rfl ?_
          refine Ops.store (Has.t rfl) (Has.t rfl) (i := 1) rfl ty55 rfl rfl (Ss' := [_, _]) rfl (M' := [_, (some _, cellM [_, _]), _, _, _]) rfl ?_
          refine nl ?_
          refine At.thn (hK17 _ _ ?_); clear hK17
          refine Tri.cv (Cv.wk (.cons (t := 4) (Has.t rfl) (.cons (t := 6) (Has.t rfl) (.cons (t := 7) (Has.t rfl) (.cons (t := 8) (Has.t rfl) (.cons (t := 9) (Has.t rfl) (.cons (t := 10) (Has.t rfl) .nil))))))) ?_
          refine Tri.region ?_
          refine st (OK1.mv (Has.t rfl)) rfl ?_
          refine st (OK1.negI (Has.t rfl) (by first | with_reducible assumption | omega | (simp only [val_words, zv_nf]; omega) | (simp only [val_words, zv_nf, Int.natAbs_natCast]; omega)) (by first | with_reducible assumption | omega | (simp only [val_words, zv_nf]; omega) | (simp only [val_words, zv_nf, Int.natAbs_natCast]; omega))) rfl ?_
          refine st (OK1.as (Has.t rfl)) rfl ?_
          refine nl ?_
          refine At.thn (hK11 _ _ ?_); clear hK11
          refine Tri.seq fun K18 hK18 => ?_
          refine Tri.region ?_
          refine st (OK1.call (zint_Of) (.cons (Has.cI 1 rfl) .nil)) rfl ?_
          refine Ops.alloc [isB false, SlM isU []] zero55 (fun _ _ => ⟨rfl, nilM _ _, trivial⟩) rfl fun b6 => ?_
          refine Ops.store (Has.t rfl) (Has.t rfl) (i := 0) rfl ty55 rfl rfl (Ss' := [_, _]) rfl (M' := [(some _, cellM [_, _]), _, _, _, _, _]) rfl ?_
          refine nl ?_
          refine At.thn (hK18 _ _ ?_); clear hK18
          refine Tri.seq fun K19 hK19 => ?_
          refine Tri.seq fun K20 hK20 => ?_
          refine Tri.region ?_
          refine st (OK1.as (Has.cI 0 rfl)) rfl ?_
          refine nl ?_
          refine At.thn (hK20 _ _ ?_); clear hK20
          refine Tri.block ?_
          refine Tri.loopF [4, 6, 7, 8, 9, 10, 13] (fun (z : { i : Nat // i ≤ (e.tmod 13).natAbs }) => match z with | ⟨i, hi⟩ => [(14, isI (i : Int))]) (fun M => fun (z : { i : Nat // i ≤ (e.tmod 13).natAbs }) => match z with | ⟨i, hi⟩ => [zM b6 ((inv (zv m xs) (zv n ys)) ^ i), zM b5 (inv (zv m xs) (zv n ys)), zM b4 (inv (zv m xs) (zv n ys)), zM b3 P, (some b2, cellM [isB n, SlM isU ys]), (some b1, cellM [isB m, SlM isU xs])]) (fun (z : { i : Nat // i ≤ (e.tmod 13).natAbs }) => match z with | ⟨i, hi⟩ => (e.tmod 13).natAbs - i) (⟨0, Nat.zero_le _⟩) (Cv.mem (.cons (t := 14) (Has.t' rfl ?_) (.cons (t := 4) (Has.t rfl) (.cons (t := 6) (Has.t rfl) (.cons (t := 7) (Has.t rfl) (.cons (t := 8) (Has.t rfl) (.cons (t := 9) (Has.t rfl) (.cons (t := 10) (Has.t rfl) (.cons (t := 13) (Has.t rfl) .nil)))))))) ?_) ?_
          · rfl
          · exact zM_eq (Int.pow_zero _).symm rfl
          rintro ⟨i, hi⟩ K21 hK21
          refine Tri.cv (Cv.wk (.cons (t := 14) (Has.t rfl) (.cons (t := 4) (Has.t rfl) (.cons (t := 6) (Has.t rfl) (.cons (t := 7) (Has.t rfl) (.cons (t := 8) (Has.t rfl) (.cons (t := 9) (Has.t rfl) (.cons (t := 10) (Has.t rfl) (.cons (t := 13) (Has.t rfl) .nil))))))))) ?_
          refine Tri.memEq (M' := [zM b6 ((inv (zv m xs) (zv n ys)) ^ i), zM b5 (inv (zv m xs) (zv n ys)), zM b4 (inv (zv m xs) (zv n ys)), zM b3 P, (some b2, cellM [isB n, SlM isU ys]), (some b1, cellM [isB m, SlM isU xs])]) rfl ?_
          have hpw := nz_pow (inv (zv m xs) (zv n ys)) i
          have hpm := nz_mul ((inv (zv m xs) (zv n ys)) ^ i) (inv (zv m xs) (zv n ys))
          have hpw2 : (List.length (words (inv (zv m xs) (zv n ys)).natAbs)) * i ≤ 2 * 12 := Nat.mul_le_mul (by omega) (by omega)
          refine Tri.seq fun K22 hK22 => ?_
          refine Tri.seq fun K23 hK23 => ?_
          refine Tri.region ?_
          refine st (OK1.mv (Has.t rfl)) rfl ?_
          refine st (OK1.mv (Has.t rfl)) rfl ?_
          refine st (OK1.ltI (Has.t rfl) (Has.t rfl)) rfl ?_
          refine nl ?_
          refine At.thn (hK23 _ _ ?_); clear hK23
          refine Tri.cond (Has.t rfl) (fun hc5 => ?_) (fun hc5 => ?_)
          · have hc5 := BP.t hc5
            refine Tri.skip ?_
            refine At.thn (hK22 _ _ ?_); clear hK22
            refine Tri.seq fun K24 hK24 => ?_
            refine Tri.block ?_
            refine Tri.region ?_
            refine st (OK1.load (Has.t rfl) (i := 0) rfl ty55 rfl (Ss' := [_, _]) rfl) rfl ?_
            refine st (OK1.load (Has.t rfl) (i := 2) rfl ty55 rfl (Ss' := [_, _]) rfl) rfl ?_
            refine st (OK1.eq (OK1.call (zint_Mul (by first | with_reducible assumption | omega | (simp only [val_words, zv_nf]; omega) | (simp only [val_words, zv_nf, Int.natAbs_natCast]; omega)) (by first | with_reducible assumption | omega | (simp only [val_words, zv_nf]; omega) | (simp only [val_words, zv_nf, Int.natAbs_natCast]; omega))) (.cons (Has.t rfl) (.cons (Has.t rfl) .nil))) (by first | (simp only [val_words, zv_nf]; rfl) | rfl)) rfl ?_
            refine Ops.store (Has.t rfl) (Has.t rfl) (i := 0) rfl ty55 rfl rfl (Ss' := [_, _]) rfl (M' := [(some _, cellM [_, _]), _, _, _, _, _]) rfl ?_
            refine nl ?_
            refine At.bln ?_
            refine At.thn (hK24 _ _ ?_); clear hK24
            refine Tri.region ?_
            refine st (OK1.mv (Has.t rfl)) rfl ?_
            refine st (OK1.addI (Has.t rfl) (Has.cI 1 rfl) (by first | with_reducible assumption | omega | (simp only [val_words, zv_nf]; omega) | (simp only [val_words, zv_nf, Int.natAbs_natCast]; omega)) (by first | with_reducible assumption | omega | (simp only [val_words, zv_nf]; omega) | (simp only [val_words, zv_nf, Int.natAbs_natCast]; omega))) rfl ?_
            refine st (OK1.as (Has.t rfl)) rfl ?_
            refine nl ?_
            refine At.thn ?_
            refine hK21 (⟨i + 1, by omega⟩) _ _ ?_ (Cv.mem (.cons (t := 14) (Has.t' rfl ?_) (.cons (t := 4) (Has.t rfl) (.cons (t := 6) (Has.t rfl) (.cons (t := 7) (Has.t rfl) (.cons (t := 8) (Has.t rfl) (.cons (t := 9) (Has.t rfl) (.cons (t := 10) (Has.t rfl) (.cons (t := 13) (Has.t rfl) .nil)))))))) ?_)
            · show (e.tmod 13).natAbs - (i + 1) < (e.tmod 13).natAbs - i; omega
            · rfl
            · exact zM_eq (Int.pow_succ _ _).symm rfl
          · have hc5 := BP.f hc5
            refine Tri.exit ?_
            refine At.the ?_
            refine At.the ?_
            refine At.blh ?_
            refine At.thn (hK19 _ _ ?_); clear hK19
            refine Tri.cv (Cv.wk (.cons (t := 4) (Has.t rfl) (.cons (t := 6) (Has.t rfl) (.cons (t := 8) (Has.t rfl) (.cons (t := 9) (Has.t rfl) (.cons (t := 13) (Has.t rfl) .nil)))))) ?_
            refine Tri.seq fun K25 hK25 => ?_
            refine Tri.region ?_
            refine st (OK1.mv (Has.t rfl)) rfl ?_
            refine st (OK1.mv (Has.t rfl)) rfl ?_
            refine stT rfl rfl (fun hg => have hg' := BP.t hg; OK1.load (Has.t rfl) (i := 3) rfl ty55 rfl (Ss' := [_, _]) rfl) rfl ?_
            refine stT rfl rfl (fun hg => have hg' := BP.t hg; OK1.load (Has.t rfl) (i := 4) rfl ty55 rfl (Ss' := [_, _]) rfl) rfl ?_
            refine stT rfl rfl (fun hg => have hg' := BP.t hg; OK1.eq (OK1.call (ref06_Within (by first | with_reducible assumption | omega | (simp only [val_words, zv_nf]; omega) | (simp only [val_words, zv_nf, Int.natAbs_natCast]; omega)) (by first | with_reducible assumption | omega | (simp only [val_words, zv_nf]; omega) | (simp only [val_words, zv_nf, Int.natAbs_natCast]; omega))) (.cons (Has.g rfl hg) (.cons (Has.g rfl hg) .nil))) (by first | (simp only [val_words, zv_nf]; rfl) | rfl)) rfl ?_
            refine st (OK1.pickAnd (Has.t rfl) (fun h => Has.g rfl h)) rfl ?_
            refine st (OK1.mv (Has.t rfl)) rfl ?_
            refine stT rfl rfl (fun hg => have hg' := BP.t hg; OK1.load (Has.t rfl) (i := 3) rfl ty55 rfl (Ss' := [_, _]) rfl) rfl ?_
            refine stT rfl rfl (fun hg => have hg' := BP.t hg; OK1.load (Has.t rfl) (i := 0) rfl ty55 rfl (Ss' := [_, _]) rfl) rfl ?_
            refine stT rfl rfl (fun hg => have hg' := BP.t hg; OK1.load (Has.t rfl) (i := 4) rfl ty55 rfl (Ss' := [_, _]) rfl) rfl ?_
            refine stT rfl rfl (fun hg => have hg' := BP.t hg; OK1.eq (OK1.call (ref06_Congruent (by first | with_reducible assumption | omega | (simp only [val_words, zv_nf]; omega) | (simp only [val_words, zv_nf, Int.natAbs_natCast]; omega)) (by first | with_reducible assumption | omega | (simp only [val_words, zv_nf]; omega) | (simp only [val_words, zv_nf, Int.natAbs_natCast]; omega)) (by first | with_reducible assumption | omega | (simp only [val_words, zv_nf]; omega) | (simp only [val_words, zv_nf, Int.natAbs_natCast]; omega)) (by first | with_reducible assumption | omega | (simp only [val_words, zv_nf]; omega) | (simp only [val_words, zv_nf, Int.natAbs_natCast]; omega))) (.cons (Has.g rfl hg) (.cons (Has.g rfl hg) (.cons (Has.g rfl hg) .nil)))) (by first | (simp only [val_words, zv_nf]; rfl) | rfl)) rfl ?_
            refine st (OK1.pickAnd (Has.t rfl) (fun h => Has.g rfl h)) rfl ?_
            refine st (OK1.as (Has.t rfl)) rfl ?_
            refine nl ?_
            refine At.thn (hK25 _ _ ?_); clear hK25
            refine Tri.cv (Cv.wk (.cons (t := 6) (Has.t rfl) .nil)) ?_
            refine Tri.ret ?_
            refine rt1 (.inl rfl) Try.results12 rfl (.tmp (Has.t' rfl ?_) .nil)
            all_goals (obtain rfl : i = (e.tmod 13).natAbs := (by omega); exact isB_eq (pow_all hP (show _ < 0 by omega) hG hok hPe))
      · have hc3 := BP.f hc3
        refine Tri.skip ?_
        refine At.thn (hK11 _ _ ?_); clear hK11
        refine Tri.seq fun K26 hK26 => ?_
        refine Tri.region ?_
        refine st (OK1.call (zint_Of) (.cons (Has.cI 1 rfl) .nil)) rfl ?_
        refine Ops.alloc [isB false, SlM isU []] zero55 (fun _ _ => ⟨rfl, nilM _ _, trivial⟩) rfl fun b7 => ?_
        refine Ops.store (Has.t rfl) (Has.t rfl) (i := 0) rfl ty55 rfl rfl (Ss' := [_, _]) rfl (M' := [(some _, cellM [_, _]), _, _, _, _]) rfl ?_
        refine nl ?_
        refine At.thn (hK26 _ _ ?_); clear hK26
        refine Tri.seq fun K27 hK27 => ?_
        refine Tri.seq fun K28 hK28 => ?_
        refine Tri.region ?_
        refine st (OK1.as (Has.cI 0 rfl)) rfl ?_
        refine nl ?_
        refine At.thn (hK28 _ _ ?_); clear hK28
        refine Tri.block ?_
        refine Tri.loopF [4, 6, 7, 8, 9, 10, 13] (fun (z : { i : Nat // i ≤ (e.tmod 13).natAbs }) => match z with | ⟨i, hi⟩ => [(14, isI (i : Int))]) (fun M => fun (z : { i : Nat // i ≤ (e.tmod 13).natAbs }) => match z with | ⟨i, hi⟩ => [zM b7 ((zv m xs) ^ i), (some b4, cellM [isB m, SlM isU xs]), zM b3 P, (some b2, cellM [isB n, SlM isU ys]), (some b1, cellM [isB m, SlM isU xs])]) (fun (z : { i : Nat // i ≤ (e.tmod 13).natAbs }) => match z with | ⟨i, hi⟩ => (e.tmod 13).natAbs - i) (⟨0, Nat.zero_le _⟩) (Cv.mem (.cons (t := 14) (Has.t' rfl ?_) (.cons (t := 4) (Has.t rfl) (.cons (t := 6) (Has.t rfl) (.cons (t := 7) (Has.t rfl) (.cons (t := 8) (Has.t rfl) (.cons (t := 9) (Has.t rfl) (.cons (t := 10) (Has.t rfl) (.cons (t := 13) (Has.t rfl) .nil)))))))) ?_) ?_
        · rfl
        · exact zM_eq (Int.pow_zero _).symm rfl
        rintro ⟨i, hi⟩ K29 hK29
        refine Tri.cv (Cv.wk (.cons (t := 14) (Has.t rfl) (.cons (t := 4) (Has.t rfl) (.cons (t := 6) (Has.t rfl) (.cons (t := 7) (Has.t rfl) (.cons (t := 8) (Has.t rfl) (.cons (t := 9) (Has.t rfl) (.cons (t := 10) (Has.t rfl) (.cons (t := 13) (Has.t rfl) .nil))))))))) ?_
        refine Tri.memEq (M' := [zM b7 ((zv m xs) ^ i), (some b4, cellM [isB m, SlM isU xs]), zM b3 P, (some b2, cellM [isB n, SlM isU ys]), (some b1, cellM [isB m, SlM isU xs])]) rfl ?_
        have hpw := nz_pow (zv m xs) i
        have hpm := nz_mul ((zv m xs) ^ i) (zv m xs)
        have hpw2 : (List.length (words (zv m xs).natAbs)) * i ≤ 2 * 12 := Nat.mul_le_mul (by omega) (by omega)
        refine Tri.seq fun K30 hK30 => ?_
        refine Tri.seq fun K31 hK31 => ?_
        refine Tri.region ?_
        refine st (OK1.mv (Has.t rfl)) rfl ?_
        refine st (OK1.mv (Has.t rfl)) rfl ?_
        refine st (OK1.ltI (Has.t rfl) (Has.t rfl)) rfl ?_
        refine nl ?_
        refine At.thn (hK31 _ _ ?_); clear hK31
        refine Tri.cond (Has.t rfl) (fun hc6 => ?_) (fun hc6 => ?_)
        · have hc6 := BP.t hc6
          refine Tri.skip ?_
          refine At.thn (hK30 _ _ ?_); clear hK30
          refine Tri.seq fun K32 hK32 => ?_
          refine Tri.block ?_
          refine Tri.region ?_
          refine st (OK1.load (Has.t rfl) (i := 0) rfl ty55 rfl (Ss' := [_, _]) rfl) rfl ?_
          refine st (OK1.load (Has.t rfl) (i := 1) rfl ty55 rfl (Ss' := [_, _]) rfl) rfl ?_
          refine st (OK1.eq (OK1.call (zint_Mul (by first | with_reducible assumption | omega | (simp only [val_words, zv_nf]; omega) | (simp only [val_words, zv_nf, Int.natAbs_natCast]; omega)) (by first | with_reducible assumption | omega | (simp only [val_words, zv_nf]; omega) | (simp only [val_words, zv_nf, Int.natAbs_natCast]; omega))) (.cons (Has.t rfl) (.cons (Has.t rfl) .nil))) (by first | (simp only [val_words, zv_nf]; rfl) | rfl)) rfl ?_
          refine Ops.store (Has.t rfl) (Has.t rfl) (i := 0) rfl ty55 rfl rfl (Ss' := [_, _]) rfl (M' := [(some _, cellM [_, _]), _, _, _, _]) rfl ?_
          refine nl ?_
          refine At.bln ?_
          refine At.thn (hK32 _ _ ?_); clear hK32
          refine Tri.region ?_
          refine st (OK1.mv (Has.t rfl)) rfl ?_
          refine st (OK1.addI (Has.t rfl) (Has.cI 1 rfl) (by first | with_reducible assumption | omega | (simp only [val_words, zv_nf]; omega) | (simp only [val_words, zv_nf, Int.natAbs_natCast]; omega)) (by first | with_reducible assumption | omega | (simp only [val_words, zv_nf]; omega) | (simp only [val_words, zv_nf, Int.natAbs_natCast]; omega))) rfl ?_
          refine st (OK1.as (Has.t rfl)) rfl ?_
          refine nl ?_
          refine At.thn ?_
          refine hK29 (⟨i + 1, by omega⟩) _ _ ?_ (Cv.mem (.cons (t := 14) (Has.t' rfl ?_) (.cons (t := 4) (Has.t rfl) (.cons (t := 6) (Has.t rfl) (.cons (t := 7) (Has.t rfl) (.cons (t := 8) (Has.t rfl) (.cons (t := 9) (Has.t rfl) (.cons (t := 10) (Has.t rfl) (.cons (t := 13) (Has.t rfl) .nil)))))))) ?_)
          · show (e.tmod 13).natAbs - (i + 1) < (e.tmod 13).natAbs - i; omega
          · rfl
          · exact zM_eq (Int.pow_succ _ _).symm rfl
        · have hc6 := BP.f hc6
          refine Tri.exit ?_
          refine At.the ?_
          refine At.the ?_
          refine At.blh ?_
          refine At.thn (hK27 _ _ ?_); clear hK27
          refine Tri.cv (Cv.wk (.cons (t := 4) (Has.t rfl) (.cons (t := 6) (Has.t rfl) (.cons (t := 8) (Has.t rfl) (.cons (t := 9) (Has.t rfl) (.cons (t := 13) (Has.t rfl) .nil)))))) ?_
          refine Tri.seq fun K33 hK33 => ?_
          refine Tri.region ?_
          refine st (OK1.mv (Has.t rfl)) rfl ?_
          refine st (OK1.mv (Has.t rfl)) rfl ?_
          refine stT rfl rfl (fun hg => have hg' := BP.t hg; OK1.load (Has.t rfl) (i := 2) rfl ty55 rfl (Ss' := [_, _]) rfl) rfl ?_
          refine stT rfl rfl (fun hg => have hg' := BP.t hg; OK1.load (Has.t rfl) (i := 3) rfl ty55 rfl (Ss' := [_, _]) rfl) rfl ?_
          refine stT rfl rfl (fun hg => have hg' := BP.t hg; OK1.eq (OK1.call (ref06_Within (by first | with_reducible assumption | omega | (simp only [val_words, zv_nf]; omega) | (simp only [val_words, zv_nf, Int.natAbs_natCast]; omega)) (by first | with_reducible assumption | omega | (simp only [val_words, zv_nf]; omega) | (simp only [val_words, zv_nf, Int.natAbs_natCast]; omega))) (.cons (Has.g rfl hg) (.cons (Has.g rfl hg) .nil))) (by first | (simp only [val_words, zv_nf]; rfl) | rfl)) rfl ?_
          refine st (OK1.pickAnd (Has.t rfl) (fun h => Has.g rfl h)) rfl ?_
          refine st (OK1.mv (Has.t rfl)) rfl ?_
          refine stT rfl rfl (fun hg => have hg' := BP.t hg; OK1.load (Has.t rfl) (i := 2) rfl ty55 rfl (Ss' := [_, _]) rfl) rfl ?_
          refine stT rfl rfl (fun hg => have hg' := BP.t hg; OK1.load (Has.t rfl) (i := 0) rfl ty55 rfl (Ss' := [_, _]) rfl) rfl ?_
          refine stT rfl rfl (fun hg => have hg' := BP.t hg; OK1.load (Has.t rfl) (i := 3) rfl ty55 rfl (Ss' := [_, _]) rfl) rfl ?_
          refine stT rfl rfl (fun hg => have hg' := BP.t hg; OK1.eq (OK1.call (ref06_Congruent (by first | with_reducible assumption | omega | (simp only [val_words, zv_nf]; omega) | (simp only [val_words, zv_nf, Int.natAbs_natCast]; omega)) (by first | with_reducible assumption | omega | (simp only [val_words, zv_nf]; omega) | (simp only [val_words, zv_nf, Int.natAbs_natCast]; omega)) (by first | with_reducible assumption | omega | (simp only [val_words, zv_nf]; omega) | (simp only [val_words, zv_nf, Int.natAbs_natCast]; omega)) (by first | with_reducible assumption | omega | (simp only [val_words, zv_nf]; omega) | (simp only [val_words, zv_nf, Int.natAbs_natCast]; omega))) (.cons (Has.g rfl hg) (.cons (Has.g rfl hg) (.cons (Has.g rfl hg) .nil)))) (by first | (simp only [val_words, zv_nf]; rfl) | rfl)) rfl ?_
          refine st (OK1.pickAnd (Has.t rfl) (fun h => Has.g rfl h)) rfl ?_
          refine st (OK1.as (Has.t rfl)) rfl ?_
          refine nl ?_
          refine At.thn (hK33 _ _ ?_); clear hK33
          refine Tri.cv (Cv.wk (.cons (t := 6) (Has.t rfl) .nil)) ?_
          refine Tri.ret ?_
          refine rt1 (.inl rfl) Try.results12 rfl (.tmp (Has.t' rfl ?_) .nil)
          all_goals (obtain rfl : i = (e.tmod 13).natAbs := (by omega); exact isB_eq (pow_all0 hP (by omega) hok hPe))
end Go.Proofs.Ytokhpacdgoebpaa
