/- A law of layer 6: the next prime, as a contract. -/
import Derived.Test.YtokhpacdgoebpaaMo1
import Derived.Test.YtokhpacdgoebpaaGfp2
import Derived.Test.YtokhpacdgoebpaaPG
namespace Go.Proofs.Ytokhpacdgoebpaa
open Go.En Go.RowKit
set_option linter.unusedVariables false
set_option maxRecDepth 10000
open Go.Nt
set_option maxHeartbeats 4000000 in
theorem modn_Next_ok {p q : Nat} (hpq : p < q) (hq : Gf.pr q = true) (hno : ∀ k, p < k → k < q → Gf.pr k = false) : Ctr Try.prog 63 [isU p] (isTup [isU q, isB true]) := by
  refine Ctr.intro Try.func63 rfl (by kernel_rfl) Try.ntmps63 rfl fun w0 F0 => ?_
  refine Tri.cv (Cv.wk (.cons (t := 0) (Has.t rfl) .nil)) ?_
  refine Tri.fact (Has.ltU (Has.t (t := 0) rfl)) fun lt0 => ?_
  have hql := Gf.pr_lt hq
  refine Tri.seq fun K1 hK1 => ?_
  refine Tri.region ?_
  refine st (OK1.as (Has.cU 0 rfl)) rfl ?_
  refine st (OK1.as (Has.cB false)) rfl ?_
  refine nl ?_
  refine At.thn (hK1 _ _ ?_); clear hK1
  refine Tri.seq fun K2 hK2 => ?_
  refine Tri.block ?_
  refine Tri.loopF [] (fun (z : { k : Nat // p ≤ k ∧ k < q }) => match z with | ⟨k, hI⟩ => [(0, isU k)]) (fun M => fun (z : { k : Nat // p ≤ k ∧ k < q }) => match z with | ⟨k, hI⟩ => M) (fun (z : { k : Nat // p ≤ k ∧ k < q }) => match z with | ⟨k, hI⟩ => q - k) (⟨p, Nat.le_refl _, hpq⟩) (Cv.mem (.cons (t := 0) (Has.t' rfl ?_) .nil) ?_) ?_
  · rfl
  · rfl
  rintro ⟨k, hk1, hk2⟩ K3 hK3
  refine Tri.cv (Cv.wk (.cons (t := 0) (Has.t rfl) .nil)) ?_
  refine Tri.seq fun K4 hK4 => ?_
  refine Tri.seq fun K5 hK5 => ?_
  refine Tri.region ?_
  refine st (OK1.mv (Has.t rfl)) rfl ?_
  refine st (OK1.ltU (Has.t rfl) (Has.cU 2147483648 rfl)) rfl ?_
  refine nl ?_
  refine At.thn (hK5 _ _ ?_); clear hK5
  refine Tri.cond (Has.t rfl) (fun hc1 => ?_) (fun hc1 => ?_)
  · have hc1 := BP.t hc1
    refine Tri.skip ?_
    refine At.thn (hK4 _ _ ?_); clear hK4
    refine Tri.block ?_
    refine Tri.seq fun K6 hK6 => ?_
    refine Tri.region ?_
    refine st (OK1.mv (Has.t rfl)) rfl ?_
    refine st (OK1.addU' (Has.t rfl) (Has.cU 1 rfl) (by first | omega | assumption)) rfl ?_
    refine st (OK1.as (Has.t rfl)) rfl ?_
    refine nl ?_
    refine At.thn (hK6 _ _ ?_); clear hK6
    refine Tri.seq fun K7 hK7 => ?_
    refine Tri.region ?_
    refine st (OK1.mv (Has.t rfl)) rfl ?_
    refine st (OK1.call modn_Prime (.cons (Has.t rfl) .nil)) rfl ?_
    refine nl ?_
    refine At.thn (hK7 _ _ ?_); clear hK7
    refine Tri.cond (Has.t rfl) (fun hc2 => ?_) (fun hc2 => ?_)
    · have hc2 := BP.t hc2
      have hkq : k + 1 = q := by
        rcases Nat.lt_or_ge (k + 1) q with h | h
        · exact absurd hc2 (by rw [hno (k + 1) (by omega) h]; decide)
        · omega
      refine Tri.seq fun K8 hK8 => ?_
      refine Tri.region ?_
      refine st (OK1.mv (Has.t rfl)) rfl ?_
      refine st (OK1.as (Has.t rfl)) rfl ?_
      refine st (OK1.as (Has.cB true)) rfl ?_
      refine nl ?_
      refine At.thn (hK8 _ _ ?_); clear hK8
      refine Tri.ret ?_
      refine At.blr ?_
      refine At.thr ?_
      refine At.blr ?_
      refine At.thr ?_
      refine rtN (.inl rfl) Try.results63 rfl rfl (.tmp (Has.t' rfl ?_) (.tmp (Has.t' rfl ?_) .nil))
      · exact isU_eq hkq
      · rfl
    · have hc2 := BP.f hc2
      have hkq : k + 1 ≠ q := fun e => absurd hc2 (by rw [e, hq]; decide)
      refine Tri.skip ?_
      refine At.bln ?_
      refine At.thn ?_
      refine hK3 (⟨k + 1, by omega, by omega⟩) _ _ ?_ (Cv.mem (.cons (t := 0) (Has.t' rfl ?_) .nil) ?_)
      · show q - (k + 1) < q - k; omega
      · rfl
      · rfl
  · have hc1 := BP.f hc1
    exact absurd hc1 (by omega)

set_option maxHeartbeats 4000000 in
theorem modn_Next_no {p : Nat} (hno : ∀ k, p < k → Gf.pr k = false) : Ctr Try.prog 63 [isU p] (isTup [isU 0, isB false]) := by
  refine Ctr.intro Try.func63 rfl (by kernel_rfl) Try.ntmps63 rfl fun w0 F0 => ?_
  refine Tri.cv (Cv.wk (.cons (t := 0) (Has.t rfl) .nil)) ?_
  refine Tri.fact (Has.ltU (Has.t (t := 0) rfl)) fun lt0 => ?_
  refine Tri.seq fun K1 hK1 => ?_
  refine Tri.region ?_
  refine st (OK1.as (Has.cU 0 rfl)) rfl ?_
  refine st (OK1.as (Has.cB false)) rfl ?_
  refine nl ?_
  refine At.thn (hK1 _ _ ?_); clear hK1
  refine Tri.seq fun K2 hK2 => ?_
  refine Tri.block ?_
  refine Tri.loopF [] (fun (z : { k : Nat // p ≤ k }) => match z with | ⟨k, hI⟩ => [(0, isU k)]) (fun M => fun (z : { k : Nat // p ≤ k }) => match z with | ⟨k, hI⟩ => M) (fun (z : { k : Nat // p ≤ k }) => match z with | ⟨k, hI⟩ => 2147483648 - k) (⟨p, Nat.le_refl _⟩) (Cv.mem (.cons (t := 0) (Has.t' rfl ?_) .nil) ?_) ?_
  · rfl
  · rfl
  rintro ⟨k, hk1⟩ K3 hK3
  refine Tri.cv (Cv.wk (.cons (t := 0) (Has.t rfl) .nil)) ?_
  refine Tri.seq fun K4 hK4 => ?_
  refine Tri.seq fun K5 hK5 => ?_
  refine Tri.region ?_
  refine st (OK1.mv (Has.t rfl)) rfl ?_
  refine st (OK1.ltU (Has.t rfl) (Has.cU 2147483648 rfl)) rfl ?_
  refine nl ?_
  refine At.thn (hK5 _ _ ?_); clear hK5
  refine Tri.cond (Has.t rfl) (fun hc1 => ?_) (fun hc1 => ?_)
  · have hc1 := BP.t hc1
    refine Tri.skip ?_
    refine At.thn (hK4 _ _ ?_); clear hK4
    refine Tri.block ?_
    refine Tri.seq fun K6 hK6 => ?_
    refine Tri.region ?_
    refine st (OK1.mv (Has.t rfl)) rfl ?_
    refine st (OK1.addU' (Has.t rfl) (Has.cU 1 rfl) (by first | omega | assumption)) rfl ?_
    refine st (OK1.as (Has.t rfl)) rfl ?_
    refine nl ?_
    refine At.thn (hK6 _ _ ?_); clear hK6
    refine Tri.seq fun K7 hK7 => ?_
    refine Tri.region ?_
    refine st (OK1.mv (Has.t rfl)) rfl ?_
    refine st (OK1.call modn_Prime (.cons (Has.t rfl) .nil)) rfl ?_
    refine nl ?_
    refine At.thn (hK7 _ _ ?_); clear hK7
    refine Tri.cond (Has.t rfl) (fun hc2 => ?_) (fun hc2 => ?_)
    · have hc2 := BP.t hc2
      exact absurd hc2 (by rw [hno (k + 1) (by omega)]; decide)
    · have hc2 := BP.f hc2
      skip
      refine Tri.skip ?_
      refine At.bln ?_
      refine At.thn ?_
      refine hK3 (⟨k + 1, by omega⟩) _ _ ?_ (Cv.mem (.cons (t := 0) (Has.t' rfl ?_) .nil) ?_)
      · show 2147483648 - (k + 1) < 2147483648 - k; omega
      · rfl
      · rfl
  · have hc1 := BP.f hc1
    refine Tri.exit ?_
    refine At.the ?_
    refine At.the ?_
    refine At.blh ?_
    refine At.thn (hK2 _ _ ?_); clear hK2
    refine Tri.seq fun K8 hK8 => ?_
    refine Tri.region ?_
    refine st (OK1.as (Has.cU 0 rfl)) rfl ?_
    refine st (OK1.as (Has.cB false)) rfl ?_
    refine nl ?_
    refine At.thn (hK8 _ _ ?_); clear hK8
    refine Tri.ret ?_
    refine rtN (.inl rfl) Try.results63 rfl rfl (.tmp (Has.t' rfl ?_) (.tmp (Has.t' rfl ?_) .nil))
    all_goals (rfl)

set_option maxHeartbeats 4000000 in
theorem c_ModNext (p : Nat) : Ctr Try.prog 11 [isK .u32 (p : Int)] (isB true) := by
  refine Ctr.intro Try.func11 rfl (by kernel_rfl) Try.ntmps11 rfl fun w0 F0 => ?_
  refine Tri.cv (Cv.wk (.cons (t := 0) (Has.t rfl) .nil)) ?_
  refine Tri.fact (Has.rngK (Has.t (t := 0) rfl)) fun lt0 => ?_
  simp only [IntKind.min, IntKind.max, IntKind.signed, IntKind.bits] at lt0
  have hk : IntKind.u32.max = 4294967295 := by decide
  obtain ⟨N, hN⟩ : ∃ N : Nat, ((p : Int) % 1048576).toNat = N := ⟨_, rfl⟩
  have hNl : N < 1048576 := by omega
  obtain ⟨q, h1, h2, h3, h4⟩ := Gf.next_prime hNl
  have hql := Gf.pr_lt h3
  refine Tri.seq fun K1 hK1 => ?_
  refine Tri.region ?_
  refine st (OK1.as (Has.cB false)) rfl ?_
  refine nl ?_
  refine At.thn (hK1 _ _ ?_); clear hK1
  refine Tri.seq fun K2 hK2 => ?_
  refine Tri.region ?_
  refine st (OK1.mv (Has.t rfl)) rfl ?_
  refine st (OK1.remK (Has.t rfl) (Has.cK .u32 1048576 rfl) (by first | omega | decide | (rw [hk]; omega) | (simp; omega)) (by first | omega | decide | (rw [hk]; omega) | (simp; omega)) (by first | omega | decide | (rw [hk]; omega) | (simp; omega))) rfl ?_
  refine st (OK1.eq (OK1.convKU un71 un27 (Has.t rfl) (by first | omega | decide | (rw [hk]; omega) | (simp; omega)) (by first | omega | decide | (rw [hk]; omega) | (simp; omega))) ((show isU _ = isU N from isU_eq hN))) rfl ?_
  refine st (OK1.as (Has.t rfl)) rfl ?_
  refine nl ?_
  refine At.thn (hK2 _ _ ?_); clear hK2
  refine Tri.seq fun K3 hK3 => ?_
  refine Tri.region ?_
  refine st (OK1.mv (Has.t rfl)) rfl ?_
  refine st (OK1.call (modn_Next_ok h1 h3 h4) (.cons (Has.t rfl) .nil)) rfl ?_
  refine st (OK1.mv (Has.t rfl)) rfl ?_
  refine st (OK1.ext (Has.t rfl) rfl) rfl ?_
  refine st (OK1.ext (Has.t rfl) rfl) rfl ?_
  refine st (OK1.as (Has.t rfl)) rfl ?_
  refine st (OK1.as (Has.t rfl)) rfl ?_
  refine nl ?_
  refine At.thn (hK3 _ _ ?_); clear hK3
  refine Tri.cv (Cv.wk (.cons (t := 2) (Has.t rfl) (.cons (t := 3) (Has.t rfl) (.cons (t := 4) (Has.t rfl) (.cons (t := 5) (Has.t rfl) .nil))))) ?_
  refine Tri.seq fun K4 hK4 => ?_
  refine Tri.seq fun K5 hK5 => ?_
  refine Tri.region ?_
  refine st (OK1.call (law06_awake) .nil) rfl ?_
  refine st (OK1.not (Has.t rfl)) rfl ?_
  refine st (OK1.mv (Has.t rfl)) rfl ?_
  refine stF rfl rfl (fun hg => have hg' := BP.t hg; OK1.mv (Has.t rfl)) rfl ?_
  refine stF rfl rfl (fun hg => have hg' := BP.t hg; OK1.not (Has.g rfl hg)) rfl ?_
  refine st (OK1.pickOr (Has.t rfl) (fun h => Has.g rfl (ng h))) rfl ?_
  refine st (OK1.mv (Has.t rfl)) rfl ?_
  refine stF rfl rfl (fun hg => have hg' := BP.t hg; OK1.mv (Has.t rfl)) rfl ?_
  refine stF rfl rfl (fun hg => have hg' := BP.t hg; OK1.mv (Has.t rfl)) rfl ?_
  refine stF rfl rfl (fun hg => have hg' := BP.t hg; OK1.leU (Has.g rfl hg) (Has.g rfl hg)) rfl ?_
  refine st (OK1.pickOr (Has.t rfl) (fun h => Has.g rfl (ng h))) rfl ?_
  refine st (OK1.mv (Has.t rfl)) rfl ?_
  refine stF rfl rfl (fun hg => have hg' := BP.t hg; OK1.mv (Has.t rfl)) rfl ?_
  refine stF rfl rfl (fun hg => have hg' := BP.t hg; OK1.mv (Has.t rfl)) rfl ?_
  refine stF rfl rfl (fun hg => have hg' := BP.t hg; OK1.addU' (Has.g rfl hg) (Has.cU 200 rfl) (by first | omega | decide | (rw [hk]; omega) | (simp; omega))) rfl ?_
  refine stF rfl rfl (fun hg => have hg' := BP.t hg; OK1.gtU (Has.g rfl hg) (Has.g rfl hg)) rfl ?_
  refine st (OK1.pickOr (Has.t rfl) (fun h => Has.g rfl (ng h))) rfl ?_
  refine st (OK1.mv (Has.t rfl)) rfl ?_
  refine stF rfl rfl (fun hg => have hg' := BP.t hg; OK1.mv (Has.t rfl)) rfl ?_
  refine stF rfl rfl (fun hg => have hg' := BP.t hg; OK1.convUI un27 un3 (Has.g rfl hg) (by first | omega | decide | (rw [hk]; omega) | (simp; omega))) rfl ?_
  refine stF rfl rfl (fun hg => have hg' := BP.t hg; OK1.call (ref06_Prime (by omega)) (.cons (Has.g rfl hg) .nil)) rfl ?_
  refine stF rfl rfl (fun hg => have hg' := BP.t hg; OK1.not (Has.g rfl hg)) rfl ?_
  refine st (OK1.pickOr (Has.t rfl) (fun h => Has.g rfl (ng h))) rfl ?_
  refine nl ?_
  refine At.thn (hK5 _ _ ?_); clear hK5
  refine Tri.cv (Cv.wk (.cons (t := 2) (Has.t rfl) (.cons (t := 3) (Has.t rfl) (.cons (t := 4) (Has.t rfl) (.cons (t := 39) (Has.t rfl) .nil))))) ?_
  refine Tri.cond (Has.t rfl) (fun hc1 => ?_) (fun hc1 => ?_)
  · have hc1 := BP.t hc1
    exact absurd hc1 (by simp [h3]; omega)
  · have hc1 := BP.f hc1
    skip
    refine Tri.skip ?_
    refine At.thn (hK4 _ _ ?_); clear hK4
    refine Tri.seq fun K6 hK6 => ?_
    refine Tri.seq fun K7 hK7 => ?_
    refine Tri.region ?_
    refine st (OK1.mv (Has.t rfl)) rfl ?_
    refine st (OK1.addU' (Has.t rfl) (Has.cU 1 rfl) (by first | omega | decide | (rw [hk]; omega) | (simp; omega))) rfl ?_
    refine st (OK1.as (Has.t rfl)) rfl ?_
    refine nl ?_
    refine At.thn (hK7 _ _ ?_); clear hK7
    refine Tri.block ?_
    refine Tri.loopF [3, 4] (fun (z : { k : Nat // N < k ∧ k ≤ q }) => match z with | ⟨k, hI⟩ => [(6, isU k)]) (fun M => fun (z : { k : Nat // N < k ∧ k ≤ q }) => match z with | ⟨k, hI⟩ => M) (fun (z : { k : Nat // N < k ∧ k ≤ q }) => match z with | ⟨k, hI⟩ => q - k) (⟨N + 1, by omega, by omega⟩) (Cv.mem (.cons (t := 6) (Has.t' rfl ?_) (.cons (t := 3) (Has.t rfl) (.cons (t := 4) (Has.t rfl) .nil))) ?_) ?_
    · rfl
    · rfl
    rintro ⟨k, hk1, hk2⟩ K8 hK8
    refine Tri.cv (Cv.wk (.cons (t := 6) (Has.t rfl) (.cons (t := 3) (Has.t rfl) (.cons (t := 4) (Has.t rfl) .nil)))) ?_
    refine Tri.seq fun K9 hK9 => ?_
    refine Tri.seq fun K10 hK10 => ?_
    refine Tri.region ?_
    refine st (OK1.mv (Has.t rfl)) rfl ?_
    refine st (OK1.mv (Has.t rfl)) rfl ?_
    refine st (OK1.ltU (Has.t rfl) (Has.t rfl)) rfl ?_
    refine nl ?_
    refine At.thn (hK10 _ _ ?_); clear hK10
    refine Tri.cond (Has.t rfl) (fun hc2 => ?_) (fun hc2 => ?_)
    · have hc2 := BP.t hc2
      refine Tri.skip ?_
      refine At.thn (hK9 _ _ ?_); clear hK9
      refine Tri.seq fun K11 hK11 => ?_
      refine Tri.block ?_
      refine Tri.seq fun K12 hK12 => ?_
      refine Tri.region ?_
      refine st (OK1.mv (Has.t rfl)) rfl ?_
      refine st (OK1.convUI un27 un3 (Has.t rfl) (by first | omega | decide | (rw [hk]; omega) | (simp; omega))) rfl ?_
      refine st (OK1.call (ref06_Prime (by omega)) (.cons (Has.t rfl) .nil)) rfl ?_
      refine nl ?_
      refine At.thn (hK12 _ _ ?_); clear hK12
      refine Tri.cond (Has.t rfl) (fun hc3 => ?_) (fun hc3 => ?_)
      · have hc3 := BP.t hc3
        exact absurd hc3 (by rw [h4 k (by omega) (by omega)]; decide)
      · have hc3 := BP.f hc3
        skip
        refine Tri.skip ?_
        refine At.bln ?_
        refine At.thn (hK11 _ _ ?_); clear hK11
        refine Tri.region ?_
        refine st (OK1.mv (Has.t rfl)) rfl ?_
        refine st (OK1.addU' (Has.t rfl) (Has.cU 1 rfl) (by first | omega | decide | (rw [hk]; omega) | (simp; omega))) rfl ?_
        refine st (OK1.as (Has.t rfl)) rfl ?_
        refine nl ?_
        refine At.thn ?_
        refine hK8 (⟨k + 1, by omega, by omega⟩) _ _ ?_ (Cv.mem (.cons (t := 6) (Has.t' rfl ?_) (.cons (t := 3) (Has.t rfl) (.cons (t := 4) (Has.t rfl) .nil))) ?_)
        · show q - (k + 1) < q - k; omega
        · rfl
        · rfl
    · have hc2 := BP.f hc2
      refine Tri.exit ?_
      refine At.the ?_
      refine At.the ?_
      refine At.blh ?_
      refine At.thn (hK6 _ _ ?_); clear hK6
      refine Tri.cv (Cv.wk (.cons (t := 3) (Has.t rfl) .nil)) ?_
      refine Tri.seq fun K13 hK13 => ?_
      refine Tri.region ?_
      refine st (OK1.mv (Has.t rfl)) rfl ?_
      refine st (OK1.addU' (Has.cU 2147483647 rfl) (Has.t rfl) (by first | omega | decide | (rw [hk]; omega) | (simp; omega))) rfl ?_
      refine st (OK1.call (modn_Next_no (fun k hk => Gf.no_next hk)) (.cons (Has.t rfl) .nil)) rfl ?_
      refine st (OK1.mv (Has.t rfl)) rfl ?_
      refine st (OK1.ext (Has.t rfl) rfl) rfl ?_
      refine st (OK1.ext (Has.t rfl) rfl) rfl ?_
      refine st (OK1.as (Has.t rfl)) rfl ?_
      refine st (OK1.as (Has.t rfl)) rfl ?_
      refine nl ?_
      refine At.thn (hK13 _ _ ?_); clear hK13
      refine Tri.cv (Cv.wk (.cons (t := 7) (Has.t rfl) (.cons (t := 8) (Has.t rfl) .nil))) ?_
      refine Tri.seq fun K14 hK14 => ?_
      refine Tri.region ?_
      refine st (OK1.mv (Has.t rfl)) rfl ?_
      refine st (OK1.not (Has.t rfl)) rfl ?_
      refine st (OK1.mv (Has.t rfl)) rfl ?_
      refine stT rfl rfl (fun hg => have hg' := BP.t hg; OK1.mv (Has.t rfl)) rfl ?_
      refine stT rfl rfl (fun hg => have hg' := BP.t hg; OK1.eqU (Has.g rfl hg) (Has.cU 0 rfl)) rfl ?_
      refine st (OK1.pickAnd (Has.t rfl) (fun h => Has.g rfl h)) rfl ?_
      refine st (OK1.as (Has.t rfl)) rfl ?_
      refine nl ?_
      refine At.thn (hK14 _ _ ?_); clear hK14
      refine Tri.cv (Cv.wk (.cons (t := 2) (Has.t rfl) .nil)) ?_
      refine Tri.ret ?_
      refine rt1 (.inl rfl) Try.results11 rfl (.tmp (Has.t' rfl ?_) .nil)
      all_goals (rfl)
end Go.Proofs.Ytokhpacdgoebpaa
