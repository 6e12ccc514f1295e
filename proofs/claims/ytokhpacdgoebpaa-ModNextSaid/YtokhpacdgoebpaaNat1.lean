/- Contracts: natural numbers (layer 1). -/
import Derived.Test.YtokhpacdgoebpaaTy
import Derived.Test.YtokhpacdgoebpaaNatM
namespace Go.Proofs.Ytokhpacdgoebpaa
open Go.En Go.RowKit
set_option linter.unusedVariables false
set_option maxRecDepth 10000
open Go.Nt
set_option maxHeartbeats 4000000 in
theorem bits_Mul64 {x y : Nat} : Ctr Try.prog 178 [isU x, isU y] (isTup [isU (x * y / 18446744073709551616), isU (x * y % 18446744073709551616)]) := by
  refine Ctr.intro Try.func178 rfl (by kernel_rfl) Try.ntmps178 rfl fun w0 F0 => ?_
  refine Tri.cv (Cv.wk (.cons (t := 0) (Has.t rfl) (.cons (t := 1) (Has.t rfl) .nil))) ?_
  refine Tri.fact (Has.ltU (Has.t (t := 0) rfl)) fun lt0 => ?_
  refine Tri.fact (Has.ltU (Has.t (t := 1) rfl)) fun lt1 => ?_
  have hf := mul64_facts lt0 lt1
  have hx1 : x / 2 ^ 32 < 4294967296 := by omega
  have hy1 : y / 2 ^ 32 < 4294967296 := by omega
  refine Tri.seq fun K1 hK1 => ?_
  refine Tri.region ?_
  refine st (OK1.as (Has.cU 0 rfl)) rfl ?_
  refine st (OK1.as (Has.cU 0 rfl)) rfl ?_
  refine nl ?_
  refine At.thn (hK1 _ _ ?_); clear hK1
  refine Tri.seq fun K2 hK2 => ?_
  refine Tri.region ?_
  refine st (OK1.mv (Has.t rfl)) rfl ?_
  refine st (OK1.eq (OK1.andU (Has.t rfl) (Has.cU 4294967295 rfl)) (isU_eq (Nat.and_two_pow_sub_one_eq_mod _ 32))) rfl ?_
  refine st (OK1.as (Has.t rfl)) rfl ?_
  refine nl ?_
  refine At.thn (hK2 _ _ ?_); clear hK2
  refine Tri.seq fun K3 hK3 => ?_
  refine Tri.region ?_
  refine st (OK1.mv (Has.t rfl)) rfl ?_
  refine st (OK1.shrUU (Has.t rfl) (Has.cU 32 rfl) (by first | omega | assumption)) rfl ?_
  refine st (OK1.as (Has.t rfl)) rfl ?_
  refine nl ?_
  refine At.thn (hK3 _ _ ?_); clear hK3
  refine Tri.seq fun K4 hK4 => ?_
  refine Tri.region ?_
  refine st (OK1.mv (Has.t rfl)) rfl ?_
  refine st (OK1.eq (OK1.andU (Has.t rfl) (Has.cU 4294967295 rfl)) (isU_eq (Nat.and_two_pow_sub_one_eq_mod _ 32))) rfl ?_
  refine st (OK1.as (Has.t rfl)) rfl ?_
  refine nl ?_
  refine At.thn (hK4 _ _ ?_); clear hK4
  refine Tri.cv (Cv.wk (.cons (t := 0) (Has.t rfl) (.cons (t := 1) (Has.t rfl) (.cons (t := 4) (Has.t rfl) (.cons (t := 5) (Has.t rfl) (.cons (t := 6) (Has.t rfl) (.cons (t := 7) (Has.t rfl) (.cons (t := 8) (Has.t rfl) .nil)))))))) ?_
  refine Tri.seq fun K5 hK5 => ?_
  refine Tri.region ?_
  refine st (OK1.mv (Has.t rfl)) rfl ?_
  refine st (OK1.shrUU (Has.t rfl) (Has.cU 32 rfl) (by first | omega | assumption)) rfl ?_
  refine st (OK1.as (Has.t rfl)) rfl ?_
  refine nl ?_
  refine At.thn (hK5 _ _ ?_); clear hK5
  refine Tri.seq fun K6 hK6 => ?_
  refine Tri.region ?_
  refine st (OK1.mv (Has.t rfl)) rfl ?_
  refine st (OK1.mv (Has.t rfl)) rfl ?_
  refine st (OK1.mulU' (Has.t rfl) (Has.t rfl) (by first | omega | assumption)) rfl ?_
  refine st (OK1.as (Has.t rfl)) rfl ?_
  refine nl ?_
  refine At.thn (hK6 _ _ ?_); clear hK6
  refine Tri.cv (Cv.wk (.cons (t := 0) (Has.t rfl) (.cons (t := 1) (Has.t rfl) (.cons (t := 4) (Has.t rfl) (.cons (t := 5) (Has.t rfl) (.cons (t := 6) (Has.t rfl) (.cons (t := 7) (Has.t rfl) (.cons (t := 8) (Has.t rfl) (.cons (t := 9) (Has.t rfl) (.cons (t := 10) (Has.t rfl) .nil)))))))))) ?_
  refine Tri.seq fun K7 hK7 => ?_
  refine Tri.region ?_
  refine st (OK1.mv (Has.t rfl)) rfl ?_
  refine st (OK1.mv (Has.t rfl)) rfl ?_
  refine st (OK1.mulU' (Has.t rfl) (Has.t rfl) (by first | omega | assumption)) rfl ?_
  refine st (OK1.mv (Has.t rfl)) rfl ?_
  refine st (OK1.shrUU (Has.t rfl) (Has.cU 32 rfl) (by first | omega | assumption)) rfl ?_
  refine st (OK1.addU' (Has.t rfl) (Has.t rfl) (by first | omega | assumption)) rfl ?_
  refine st (OK1.as (Has.t rfl)) rfl ?_
  refine nl ?_
  refine At.thn (hK7 _ _ ?_); clear hK7
  refine Tri.cv (Cv.wk (.cons (t := 0) (Has.t rfl) (.cons (t := 1) (Has.t rfl) (.cons (t := 4) (Has.t rfl) (.cons (t := 5) (Has.t rfl) (.cons (t := 6) (Has.t rfl) (.cons (t := 7) (Has.t rfl) (.cons (t := 9) (Has.t rfl) (.cons (t := 11) (Has.t rfl) .nil))))))))) ?_
  refine Tri.seq fun K8 hK8 => ?_
  refine Tri.region ?_
  refine st (OK1.mv (Has.t rfl)) rfl ?_
  refine st (OK1.eq (OK1.andU (Has.t rfl) (Has.cU 4294967295 rfl)) (isU_eq (Nat.and_two_pow_sub_one_eq_mod _ 32))) rfl ?_
  refine st (OK1.as (Has.t rfl)) rfl ?_
  refine nl ?_
  refine At.thn (hK8 _ _ ?_); clear hK8
  refine Tri.seq fun K9 hK9 => ?_
  refine Tri.region ?_
  refine st (OK1.mv (Has.t rfl)) rfl ?_
  refine st (OK1.shrUU (Has.t rfl) (Has.cU 32 rfl) (by first | omega | assumption)) rfl ?_
  refine st (OK1.as (Has.t rfl)) rfl ?_
  refine nl ?_
  refine At.thn (hK9 _ _ ?_); clear hK9
  refine Tri.cv (Cv.wk (.cons (t := 0) (Has.t rfl) (.cons (t := 1) (Has.t rfl) (.cons (t := 4) (Has.t rfl) (.cons (t := 5) (Has.t rfl) (.cons (t := 6) (Has.t rfl) (.cons (t := 7) (Has.t rfl) (.cons (t := 9) (Has.t rfl) (.cons (t := 12) (Has.t rfl) (.cons (t := 13) (Has.t rfl) .nil)))))))))) ?_
  refine Tri.seq fun K10 hK10 => ?_
  refine Tri.region ?_
  refine st (OK1.mv (Has.t rfl)) rfl ?_
  refine st (OK1.mv (Has.t rfl)) rfl ?_
  refine st (OK1.mv (Has.t rfl)) rfl ?_
  refine st (OK1.mulU' (Has.t rfl) (Has.t rfl) (by first | omega | assumption)) rfl ?_
  refine st (OK1.addU' (Has.t rfl) (Has.t rfl) (by first | omega | assumption)) rfl ?_
  refine st (OK1.as (Has.t rfl)) rfl ?_
  refine nl ?_
  refine At.thn (hK10 _ _ ?_); clear hK10
  refine Tri.cv (Cv.wk (.cons (t := 0) (Has.t rfl) (.cons (t := 1) (Has.t rfl) (.cons (t := 4) (Has.t rfl) (.cons (t := 5) (Has.t rfl) (.cons (t := 7) (Has.t rfl) (.cons (t := 9) (Has.t rfl) (.cons (t := 12) (Has.t rfl) (.cons (t := 13) (Has.t rfl) .nil))))))))) ?_
  refine Tri.seq fun K11 hK11 => ?_
  refine Tri.region ?_
  refine st (OK1.mv (Has.t rfl)) rfl ?_
  refine st (OK1.mv (Has.t rfl)) rfl ?_
  refine st (OK1.mulU' (Has.t rfl) (Has.t rfl) (by first | omega | assumption)) rfl ?_
  refine st (OK1.mv (Has.t rfl)) rfl ?_
  refine st (OK1.addU' (Has.t rfl) (Has.t rfl) (by first | omega | assumption)) rfl ?_
  refine st (OK1.mv (Has.t rfl)) rfl ?_
  refine st (OK1.shrUU (Has.t rfl) (Has.cU 32 rfl) (by first | omega | assumption)) rfl ?_
  refine st (OK1.addU' (Has.t rfl) (Has.t rfl) (by first | omega | assumption)) rfl ?_
  refine st (OK1.as (Has.t rfl)) rfl ?_
  refine nl ?_
  refine At.thn (hK11 _ _ ?_); clear hK11
  refine Tri.cv (Cv.wk (.cons (t := 0) (Has.t rfl) (.cons (t := 1) (Has.t rfl) (.cons (t := 4) (Has.t rfl) (.cons (t := 5) (Has.t rfl) .nil))))) ?_
  refine Tri.seq fun K12 hK12 => ?_
  refine Tri.region ?_
  refine st (OK1.mv (Has.t rfl)) rfl ?_
  refine st (OK1.mv (Has.t rfl)) rfl ?_
  refine st (OK1.mulU (Has.t rfl) (Has.t rfl)) rfl ?_
  refine st (OK1.as (Has.t rfl)) rfl ?_
  refine nl ?_
  refine At.thn (hK12 _ _ ?_); clear hK12
  refine Tri.cv (Cv.wk (.cons (t := 4) (Has.t rfl) (.cons (t := 5) (Has.t rfl) .nil))) ?_
  refine Tri.ret ?_
  refine rtN (.inl rfl) Try.results178 rfl rfl (.tmp (Has.t' rfl ?_) (.tmp (Has.t' rfl ?_) .nil))
  · exact isU_eq (mul64_hi x y)
  · rfl

set_option maxHeartbeats 4000000 in
theorem clone_Nat {xs : List Nat} (hx : xs.length ≤ 4294967296) : Ctr Try.prog 165 [isWords xs] (isWords xs) := by
  refine Ctr.intro Try.func165 rfl (by kernel_rfl) Try.ntmps165 rfl fun w0 F0 => ?_
  refine Tri.cv (Cv.wk (.cons (t := 0) (Has.t rfl) .nil)) ?_
  refine Tri.fact (Has.lenLt (Has.t (t := 0) rfl)) fun lt0 => ?_
  refine Tri.fact (Has.okW (Has.t (t := 0) rfl)) fun ok0 => ?_
  refine Tri.seq fun K1 hK1 => ?_
  refine Tri.region ?_
  refine st (OK1.as (Has.cW (f := isU))) rfl ?_
  refine nl ?_
  refine At.thn (hK1 _ _ ?_); clear hK1
  refine Tri.seq fun K2 hK2 => ?_
  refine Tri.seq fun K3 hK3 => ?_
  refine Tri.region ?_
  refine st (OK1.mv (Has.t rfl)) rfl ?_
  refine Ops.eqNil sl53 (Has.t rfl) rfl fun bn1 hn1 => ?_
  refine nl ?_
  refine At.thn (hK3 _ _ ?_); clear hK3
  refine Tri.cond (Has.t rfl) (fun hc2 => ?_) (fun hc2 => ?_)
  · have hc2 := BP.t hc2
    refine Tri.seq fun K4 hK4 => ?_
    refine Tri.region ?_
    refine st (OK1.as (Has.cW (f := isU))) rfl ?_
    refine nl ?_
    refine At.thn (hK4 _ _ ?_); clear hK4
    refine Tri.ret ?_
    refine At.thr ?_
    refine rt1 (.inl rfl) Try.results165 rfl (.tmp (Has.t' rfl ?_) .nil)
    all_goals (rw [hn1 hc2])
  · have hc2 := BP.f hc2
    refine Tri.skip ?_
    refine At.thn (hK2 _ _ ?_); clear hK2
    refine Tri.seq fun K5 hK5 => ?_
    refine Tri.region ?_
    refine Ops.buildS0 sl53 ty27 rfl ?_
    refine st (OK1.mv (Has.t rfl)) rfl ?_
    refine st (OK1.appendZM sl53 ty27 zero27 by27 (Has.t rfl) (Has.t rfl) (by first | omega | assumption)) rfl ?_
    refine st (OK1.as (Has.t rfl)) rfl ?_
    refine nl ?_
    refine At.thn (hK5 _ _ ?_); clear hK5
    refine Tri.cv (Cv.wk (.cons (t := 2) (Has.t rfl) .nil)) ?_
    refine Tri.ret ?_
    refine rt1 (.inl rfl) Try.results165 rfl (.tmp (Has.t' rfl ?_) .nil)
    all_goals (rfl)

set_option maxHeartbeats 4000000 in
theorem nat_trim {xs : List Nat} : Ctr Try.prog 130 [isWords xs] (isWords (words (val xs))) := by
  refine Ctr.intro Try.func130 rfl (by kernel_rfl) Try.ntmps130 rfl fun w0 F0 => ?_
  refine Tri.cv (Cv.wk (.cons (t := 0) (Has.t rfl) .nil)) ?_
  refine Tri.fact (Has.lenLt (Has.t (t := 0) rfl)) fun lt0 => ?_
  refine Tri.fact (Has.okW (Has.t (t := 0) rfl)) fun ok0 => ?_
  refine Tri.seq fun K1 hK1 => ?_
  refine Tri.region ?_
  refine st (OK1.as (Has.cW (f := isU))) rfl ?_
  refine nl ?_
  refine At.thn (hK1 _ _ ?_); clear hK1
  refine Tri.seq fun K2 hK2 => ?_
  refine Tri.region ?_
  refine st (OK1.mv (Has.t rfl)) rfl ?_
  refine st (OK1.len sl53 (Has.t rfl)) rfl ?_
  refine st (OK1.as (Has.t rfl)) rfl ?_
  refine nl ?_
  refine At.thn (hK2 _ _ ?_); clear hK2
  refine Tri.seq fun K3 hK3 => ?_
  refine Tri.block ?_
  refine Tri.loopF [0, 2] (fun (z : { k : Nat // k ≤ xs.length ∧ ∀ i, k ≤ i → xs.getD i 0 = 0 }) => match z with | ⟨k, hI⟩ => [(3, isI (k : Int))]) (fun M => fun (z : { k : Nat // k ≤ xs.length ∧ ∀ i, k ≤ i → xs.getD i 0 = 0 }) => match z with | ⟨k, hI⟩ => M) (fun (z : { k : Nat // k ≤ xs.length ∧ ∀ i, k ≤ i → xs.getD i 0 = 0 }) => match z with | ⟨k, hI⟩ => k) (⟨xs.length, Nat.le_refl _, fun i hi => by simp [List.getD, List.getElem?_eq_none hi]⟩) (Cv.mem (.cons (t := 3) (Has.t' rfl ?_) (.cons (t := 0) (Has.t rfl) (.cons (t := 2) (Has.t rfl) .nil))) ?_) ?_
  · rfl
  · rfl
  rintro ⟨k, hk, hz⟩ K4 hK4
  refine Tri.cv (Cv.wk (.cons (t := 3) (Has.t rfl) (.cons (t := 0) (Has.t rfl) (.cons (t := 2) (Has.t rfl) .nil)))) ?_
  have ek : ((k : Int) - 1).toNat = k - 1 := by omega
  refine Tri.seq fun K5 hK5 => ?_
  refine Tri.seq fun K6 hK6 => ?_
  refine Tri.region ?_
  refine st (OK1.mv (Has.t rfl)) rfl ?_
  refine st (OK1.gtI (Has.t rfl) (Has.cI 0 rfl)) rfl ?_
  refine st (OK1.mv (Has.t rfl)) rfl ?_
  refine stT rfl rfl (fun hg => have hg' := BP.t hg; OK1.mv (Has.t rfl)) rfl ?_
  refine stT rfl rfl (fun hg => have hg' := BP.t hg; OK1.mv (Has.t rfl)) rfl ?_
  refine stT rfl rfl (fun hg => have hg' := BP.t hg; OK1.subI (Has.g rfl hg) (Has.cI 1 rfl) (by first | omega | assumption) (by first | omega | assumption)) rfl ?_
  refine stT rfl rfl (fun hg => have hg' := BP.t hg; OK1.ixP sl53 ty27 (Has.g rfl hg) (Has.g rfl hg) ⟨by omega, by omega⟩ (getD_some (d := 0) (by omega))) rfl ?_
  refine stT rfl rfl (fun hg => have hg' := BP.t hg; OK1.loadP1 (Has.g rfl hg) ty27) rfl ?_
  refine stT rfl rfl (fun hg => have hg' := BP.t hg; OK1.eqU (Has.g rfl hg) (Has.cU 0 rfl)) rfl ?_
  refine st (OK1.pickAnd (Has.t rfl) (fun h => Has.g rfl h)) rfl ?_
  refine nl ?_
  refine At.thn (hK6 _ _ ?_); clear hK6
  refine Tri.cond (Has.t rfl) (fun hc1 => ?_) (fun hc1 => ?_)
  · have hc1 := BP.t hc1
    refine Tri.skip ?_
    refine At.thn (hK5 _ _ ?_); clear hK5
    refine Tri.block ?_
    refine Tri.region ?_
    refine st (OK1.mv (Has.t rfl)) rfl ?_
    refine st (OK1.subI (Has.t rfl) (Has.cI 1 rfl) (by first | omega | assumption) (by first | omega | assumption)) rfl ?_
    refine st (OK1.as (Has.t rfl)) rfl ?_
    refine nl ?_
    refine At.bln ?_
    refine At.thn ?_
    refine hK4 (⟨k - 1, by omega, fun i hi => by rcases Nat.lt_or_ge i k with h | h; (have e : i = k - 1 := by omega); (rw [e, ← ek]; exact hc1.2); exact hz i h⟩) _ _ ?_ (Cv.mem (.cons (t := 3) (Has.t' rfl ?_) (.cons (t := 0) (Has.t rfl) (.cons (t := 2) (Has.t rfl) .nil))) ?_)
    · show k - 1 < k; omega
    · exact isI_eq (by omega)
    · rfl
  · have hc1 := BP.f hc1
    refine Tri.exit ?_
    refine At.the ?_
    refine At.the ?_
    refine At.blh ?_
    refine At.thn (hK3 _ _ ?_); clear hK3
    refine Tri.cv (Cv.wk (.cons (t := 0) (Has.t rfl) (.cons (t := 2) (Has.t rfl) (.cons (t := 3) (Has.t rfl) .nil)))) ?_
    refine Tri.seq fun K7 hK7 => ?_
    refine Tri.region ?_
    refine st (OK1.mv (Has.t rfl)) rfl ?_
    refine st (OK1.mv (Has.t rfl)) rfl ?_
    refine st (OK1.slHM sl53 ty27 (Has.t rfl) (Has.t rfl) ⟨by omega, by omega⟩) rfl ?_
    refine st (OK1.as (Has.t rfl)) rfl ?_
    refine nl ?_
    refine At.thn (hK7 _ _ ?_); clear hK7
    refine Tri.cv (Cv.wk (.cons (t := 2) (Has.t rfl) .nil)) ?_
    refine Tri.ret ?_
    refine rt1 (.inl rfl) Try.results130 rfl (.tmp (Has.t' rfl ?_) .nil)
    all_goals (exact SlM_eq (words_of_take ok0 hk hz (by rcases hc1 with h | h; left; omega; right; rwa [ek] at h)))

set_option maxHeartbeats 4000000 in
theorem nat_normal {xs : List Nat} : Ctr Try.prog 146 [isWords xs] (isWords (words (val xs))) := by
  refine Ctr.intro Try.func146 rfl (by kernel_rfl) Try.ntmps146 rfl fun w0 F0 => ?_
  refine Tri.cv (Cv.wk (.cons (t := 0) (Has.t rfl) .nil)) ?_
  refine Tri.fact (Has.lenLt (Has.t (t := 0) rfl)) fun lt0 => ?_
  refine Tri.fact (Has.okW (Has.t (t := 0) rfl)) fun ok0 => ?_
  refine Tri.seq fun K1 hK1 => ?_
  refine Tri.region ?_
  refine st (OK1.as (Has.cW (f := isU))) rfl ?_
  refine nl ?_
  refine At.thn (hK1 _ _ ?_); clear hK1
  refine Tri.seq fun K2 hK2 => ?_
  refine Tri.region ?_
  refine st (OK1.mv (Has.t rfl)) rfl ?_
  refine st (OK1.call (nat_trim) (.cons (Has.t rfl) .nil)) rfl ?_
  refine st (OK1.as (Has.t rfl)) rfl ?_
  refine nl ?_
  refine At.thn (hK2 _ _ ?_); clear hK2
  refine Tri.seq fun K3 hK3 => ?_
  refine Tri.seq fun K4 hK4 => ?_
  refine Tri.region ?_
  refine st (OK1.mv (Has.t rfl)) rfl ?_
  refine st (OK1.len sl53 (Has.t rfl)) rfl ?_
  refine st (OK1.eqI (Has.t rfl) (Has.cI 0 rfl)) rfl ?_
  refine nl ?_
  refine At.thn (hK4 _ _ ?_); clear hK4
  refine Tri.cond (Has.t rfl) (fun hc1 => ?_) (fun hc1 => ?_)
  · have hc1 := BP.t hc1
    refine Tri.seq fun K5 hK5 => ?_
    refine Tri.region ?_
    refine st (OK1.as (Has.cW (f := isU))) rfl ?_
    refine nl ?_
    refine At.thn (hK5 _ _ ?_); clear hK5
    refine Tri.cv (Cv.wk (.cons (t := 0) (Has.t rfl) (.cons (t := 2) (Has.t rfl) .nil))) ?_
    refine Tri.ret ?_
    refine At.thr ?_
    refine rt1 (.inl rfl) Try.results146 rfl (.tmp (Has.t' rfl ?_) .nil)
    all_goals (exact SlM_eq (List.eq_nil_of_length_eq_zero (by omega)).symm)
  · have hc1 := BP.f hc1
    refine Tri.skip ?_
    refine At.thn (hK3 _ _ ?_); clear hK3
    refine Tri.cv (Cv.wk (.cons (t := 0) (Has.t rfl) (.cons (t := 2) (Has.t rfl) .nil))) ?_
    refine Tri.seq fun K6 hK6 => ?_
    refine Tri.region ?_
    refine st (OK1.mv (Has.t rfl)) rfl ?_
    refine st (OK1.as (Has.t rfl)) rfl ?_
    refine nl ?_
    refine At.thn (hK6 _ _ ?_); clear hK6
    refine Tri.ret ?_
    refine rt1 (.inl rfl) Try.results146 rfl (.tmp (Has.t' rfl ?_) .nil)
    all_goals (rfl)

set_option maxHeartbeats 4000000 in
theorem nat_Of {x : Nat} : Ctr Try.prog 105 [isU x] (isWords (words x)) := by
  refine Ctr.intro Try.func105 rfl (by kernel_rfl) Try.ntmps105 rfl fun w0 F0 => ?_
  refine Tri.cv (Cv.wk (.cons (t := 0) (Has.t rfl) .nil)) ?_
  refine Tri.fact (Has.ltU (Has.t (t := 0) rfl)) fun lt0 => ?_
  refine Tri.seq fun K1 hK1 => ?_
  refine Tri.region ?_
  refine st (OK1.as (Has.cW (f := isU))) rfl ?_
  refine nl ?_
  refine At.thn (hK1 _ _ ?_); clear hK1
  refine Tri.seq fun K2 hK2 => ?_
  refine Tri.seq fun K3 hK3 => ?_
  refine Tri.region ?_
  refine st (OK1.mv (Has.t rfl)) rfl ?_
  refine st (OK1.eqU (Has.t rfl) (Has.cU 0 rfl)) rfl ?_
  refine nl ?_
  refine At.thn (hK3 _ _ ?_); clear hK3
  refine Tri.cond (Has.t rfl) (fun hc1 => ?_) (fun hc1 => ?_)
  · have hc1 := BP.t hc1
    refine Tri.seq fun K4 hK4 => ?_
    refine Tri.region ?_
    refine st (OK1.as (Has.cW (f := isU))) rfl ?_
    refine nl ?_
    refine At.thn (hK4 _ _ ?_); clear hK4
    refine Tri.ret ?_
    refine At.thr ?_
    refine rt1 (.inl rfl) Try.results105 rfl (.tmp (Has.t' rfl ?_) .nil)
    all_goals (exact SlM_eq (by first | rw [hc1, words_zero] | rw [words_small lt0, if_neg (by omega)]))
  · have hc1 := BP.f hc1
    refine Tri.skip ?_
    refine At.thn (hK2 _ _ ?_); clear hK2
    refine Tri.seq fun K5 hK5 => ?_
    refine Tri.region ?_
    refine st (OK1.mv (Has.t rfl)) rfl ?_
    refine st (OK1.buildS [isU 0] sl53 ty27 zero27 (fun _ _ => ⟨⟨rfl, by decide⟩, trivial⟩) rfl rfl (.cons (Has.t rfl) rfl rfl rfl .nil) rfl (S := isWords [_]) rfl) rfl ?_
    refine st (OK1.as (Has.t rfl)) rfl ?_
    refine nl ?_
    refine At.thn (hK5 _ _ ?_); clear hK5
    refine Tri.cv (Cv.wk (.cons (t := 2) (Has.t rfl) .nil)) ?_
    refine Tri.ret ?_
    refine rt1 (.inl rfl) Try.results105 rfl (.tmp (Has.t' rfl ?_) .nil)
    all_goals (exact SlM_eq (by first | rw [hc1, words_zero] | rw [words_small lt0, if_neg (by omega)]))

set_option maxHeartbeats 4000000 in
theorem nat_Norm {xs : List Nat} (hx : (List.length (words (val xs))) ≤ 4294967296) : Ctr Try.prog 138 [isWords xs] (isWords (words (val xs))) := by
  refine Ctr.intro Try.func138 rfl (by kernel_rfl) Try.ntmps138 rfl fun w0 F0 => ?_
  refine Tri.cv (Cv.wk (.cons (t := 0) (Has.t rfl) .nil)) ?_
  refine Tri.fact (Has.lenLt (Has.t (t := 0) rfl)) fun lt0 => ?_
  refine Tri.fact (Has.okW (Has.t (t := 0) rfl)) fun ok0 => ?_
  refine Tri.seq fun K1 hK1 => ?_
  refine Tri.region ?_
  refine st (OK1.as (Has.cW (f := isU))) rfl ?_
  refine nl ?_
  refine At.thn (hK1 _ _ ?_); clear hK1
  refine Tri.seq fun K2 hK2 => ?_
  refine Tri.region ?_
  refine st (OK1.mv (Has.t rfl)) rfl ?_
  refine st (OK1.call (nat_trim) (.cons (Has.t rfl) .nil)) rfl ?_
  refine st (OK1.call (clone_Nat (by first | omega | assumption)) (.cons (Has.t rfl) .nil)) rfl ?_
  refine st (OK1.call (nat_normal) (.cons (Has.t rfl) .nil)) rfl ?_
  refine st (OK1.as (Has.t rfl)) rfl ?_
  refine nl ?_
  refine At.thn (hK2 _ _ ?_); clear hK2
  refine Tri.cv (Cv.wk (.cons (t := 2) (Has.t rfl) .nil)) ?_
  refine Tri.ret ?_
  refine rt1 (.inl rfl) Try.results138 rfl (.tmp (Has.t' rfl ?_) .nil)
  all_goals (rw [val_words])

set_option maxHeartbeats 4000000 in
theorem nat_Word {xs : List Nat} : Ctr Try.prog 108 [isWords xs] (isTup [isU (if val xs < 18446744073709551616 then val xs else 0), isB (decide (val xs < 18446744073709551616))]) := by
  refine Ctr.intro Try.func108 rfl (by kernel_rfl) Try.ntmps108 rfl fun w0 F0 => ?_
  refine Tri.cv (Cv.wk (.cons (t := 0) (Has.t rfl) .nil)) ?_
  refine Tri.fact (Has.lenLt (Has.t (t := 0) rfl)) fun lt0 => ?_
  refine Tri.fact (Has.okW (Has.t (t := 0) rfl)) fun ok0 => ?_
  refine Tri.seq fun K1 hK1 => ?_
  refine Tri.region ?_
  refine st (OK1.as (Has.cU 0 rfl)) rfl ?_
  refine st (OK1.as (Has.cB false)) rfl ?_
  refine nl ?_
  refine At.thn (hK1 _ _ ?_); clear hK1
  refine Tri.seq fun K2 hK2 => ?_
  refine Tri.region ?_
  refine st (OK1.mv (Has.t rfl)) rfl ?_
  refine st (OK1.call (nat_trim) (.cons (Has.t rfl) .nil)) rfl ?_
  refine st (OK1.as (Has.t rfl)) rfl ?_
  refine nl ?_
  refine At.thn (hK2 _ _ ?_); clear hK2
  refine Tri.seq fun K3 hK3 => ?_
  refine Tri.seq fun K4 hK4 => ?_
  refine Tri.region ?_
  refine st (OK1.mv (Has.t rfl)) rfl ?_
  refine st (OK1.len sl53 (Has.t rfl)) rfl ?_
  refine nl ?_
  refine At.thn (hK4 _ _ ?_); clear hK4
  refine Tri.block ?_
  refine Tri.seq fun K5 hK5 => ?_
  refine Tri.region ?_
  refine st (OK1.eqI (Has.t rfl) (Has.cI 0 rfl)) rfl ?_
  refine st (OK1.as (Has.t rfl)) rfl ?_
  refine nl ?_
  refine At.thn (hK5 _ _ ?_); clear hK5
  refine Tri.cond (Has.t rfl) (fun hc1 => ?_) (fun hc1 => ?_)
  · have hc1 := BP.t hc1
    refine Tri.seq fun K6 hK6 => ?_
    refine Tri.region ?_
    refine st (OK1.as (Has.cU 0 rfl)) rfl ?_
    refine st (OK1.as (Has.cB true)) rfl ?_
    refine nl ?_
    refine At.thn (hK6 _ _ ?_); clear hK6
    refine Tri.cv (Cv.wk (.cons (t := 2) (Has.t rfl) (.cons (t := 3) (Has.t rfl) .nil))) ?_
    refine Tri.ret ?_
    refine At.blr ?_
    refine At.thr ?_
    refine rtN (.inl rfl) Try.results108 rfl rfl (.tmp (Has.t' rfl ?_) (.tmp (Has.t' rfl ?_) .nil))
    · exact isU_eq (word_0 (by omega)).1
    · exact isB_eq (word_0 (by omega)).2
  · have hc1 := BP.f hc1
    refine Tri.seq fun K7 hK7 => ?_
    refine Tri.region ?_
    refine st (OK1.eqI (Has.t rfl) (Has.cI 1 rfl)) rfl ?_
    refine st (OK1.as (Has.t rfl)) rfl ?_
    refine nl ?_
    refine At.thn (hK7 _ _ ?_); clear hK7
    refine Tri.cv (Cv.wk (.cons (t := 0) (Has.t rfl) (.cons (t := 2) (Has.t rfl) (.cons (t := 3) (Has.t rfl) (.cons (t := 10) (Has.t rfl) .nil))))) ?_
    refine Tri.cond (Has.t rfl) (fun hc2 => ?_) (fun hc2 => ?_)
    · have hc2 := BP.t hc2
      refine Tri.seq fun K8 hK8 => ?_
      refine Tri.region ?_
      refine st (OK1.mv (Has.t rfl)) rfl ?_
      refine st (OK1.ixP sl53 ty27 (Has.t rfl) (Has.cI 0 rfl) ⟨by omega, by omega⟩ (getD_some (d := 0) (by show 0 < _; omega))) rfl ?_
      refine st (OK1.loadP1 (Has.t rfl) ty27) rfl ?_
      refine st (OK1.as (Has.t rfl)) rfl ?_
      refine st (OK1.as (Has.cB true)) rfl ?_
      refine nl ?_
      refine At.thn (hK8 _ _ ?_); clear hK8
      refine Tri.cv (Cv.wk (.cons (t := 2) (Has.t rfl) (.cons (t := 3) (Has.t rfl) .nil))) ?_
      refine Tri.ret ?_
      refine At.blr ?_
      refine At.thr ?_
      refine rtN (.inl rfl) Try.results108 rfl rfl (.tmp (Has.t' rfl ?_) (.tmp (Has.t' rfl ?_) .nil))
      · exact isU_eq (word_1 (by omega)).1
      · exact isB_eq (word_1 (by omega)).2
    · have hc2 := BP.f hc2
      refine Tri.skip ?_
      refine At.bln ?_
      refine At.thn (hK3 _ _ ?_); clear hK3
      refine Tri.seq fun K9 hK9 => ?_
      refine Tri.region ?_
      refine st (OK1.as (Has.cU 0 rfl)) rfl ?_
      refine st (OK1.as (Has.cB false)) rfl ?_
      refine nl ?_
      refine At.thn (hK9 _ _ ?_); clear hK9
      refine Tri.ret ?_
      refine rtN (.inl rfl) Try.results108 rfl rfl (.tmp (Has.t' rfl ?_) (.tmp (Has.t' rfl ?_) .nil))
      · exact isU_eq (word_2 (by omega)).1
      · exact isB_eq (word_2 (by omega)).2

set_option maxHeartbeats 4000000 in
theorem nat_Cmp {xs ys : List Nat} : Ctr Try.prog 147 [isWords xs, isWords ys] (isI (cmpN (val xs) (val ys))) := by
  refine Ctr.intro Try.func147 rfl (by kernel_rfl) Try.ntmps147 rfl fun w0 F0 => ?_
  refine Tri.cv (Cv.wk (.cons (t := 0) (Has.t rfl) (.cons (t := 1) (Has.t rfl) .nil))) ?_
  refine Tri.fact (Has.lenLt (Has.t (t := 0) rfl)) fun lt0 => ?_
  refine Tri.fact (Has.okW (Has.t (t := 0) rfl)) fun ok0 => ?_
  refine Tri.fact (Has.lenLt (Has.t (t := 1) rfl)) fun lt1 => ?_
  refine Tri.fact (Has.okW (Has.t (t := 1) rfl)) fun ok1 => ?_
  have n0 : (words (val xs)).length ≤ xs.length := nw_val ok0
  have n1 : (words (val ys)).length ≤ ys.length := nw_val ok1
  refine Tri.seq fun K1 hK1 => ?_
  refine Tri.region ?_
  refine st (OK1.as (Has.cI 0 rfl)) rfl ?_
  refine nl ?_
  refine At.thn (hK1 _ _ ?_); clear hK1
  refine Tri.seq fun K2 hK2 => ?_
  refine Tri.region ?_
  refine st (OK1.mv (Has.t rfl)) rfl ?_
  refine st (OK1.call (nat_trim) (.cons (Has.t rfl) .nil)) rfl ?_
  refine st (OK1.mv (Has.t rfl)) rfl ?_
  refine st (OK1.call (nat_trim) (.cons (Has.t rfl) .nil)) rfl ?_
  refine st (OK1.as (Has.t rfl)) rfl ?_
  refine st (OK1.as (Has.t rfl)) rfl ?_
  refine nl ?_
  refine At.thn (hK2 _ _ ?_); clear hK2
  refine Tri.seq fun K3 hK3 => ?_
  refine Tri.seq fun K4 hK4 => ?_
  refine Tri.region ?_
  refine st (OK1.mv (Has.t rfl)) rfl ?_
  refine st (OK1.len sl53 (Has.t rfl)) rfl ?_
  refine st (OK1.mv (Has.t rfl)) rfl ?_
  refine st (OK1.len sl53 (Has.t rfl)) rfl ?_
  refine st (OK1.neI (Has.t rfl) (Has.t rfl)) rfl ?_
  refine nl ?_
  refine At.thn (hK4 _ _ ?_); clear hK4
  refine Tri.cv (Cv.wk (.cons (t := 0) (Has.t rfl) (.cons (t := 1) (Has.t rfl) (.cons (t := 4) (Has.t rfl) (.cons (t := 14) (Has.t rfl) .nil))))) ?_
  refine Tri.cond (Has.t rfl) (fun hc1 => ?_) (fun hc1 => ?_)
  · have hc1 := BP.t hc1
    refine Tri.seq fun K5 hK5 => ?_
    refine Tri.seq fun K6 hK6 => ?_
    refine Tri.region ?_
    refine st (OK1.mv (Has.t rfl)) rfl ?_
    refine st (OK1.len sl53 (Has.t rfl)) rfl ?_
    refine st (OK1.mv (Has.t rfl)) rfl ?_
    refine st (OK1.len sl53 (Has.t rfl)) rfl ?_
    refine st (OK1.ltI (Has.t rfl) (Has.t rfl)) rfl ?_
    refine nl ?_
    refine At.thn (hK6 _ _ ?_); clear hK6
    refine Tri.cv (Cv.wk (.cons (t := 0) (Has.t rfl) (.cons (t := 1) (Has.t rfl) (.cons (t := 4) (Has.t rfl) (.cons (t := 19) (Has.t rfl) .nil))))) ?_
    refine Tri.cond (Has.t rfl) (fun hc2 => ?_) (fun hc2 => ?_)
    · have hc2 := BP.t hc2
      refine Tri.seq fun K7 hK7 => ?_
      refine Tri.region ?_
      refine st (OK1.as (Has.cI (-1) rfl)) rfl ?_
      refine nl ?_
      refine At.thn (hK7 _ _ ?_); clear hK7
      refine Tri.ret ?_
      refine At.thr ?_
      refine At.thr ?_
      refine rt1 (.inl rfl) Try.results147 rfl (.tmp (Has.t' rfl ?_) .nil)
      all_goals (exact isI_eq (cmp_len_lt (show (words _).length < (words _).length by omega)))
    · have hc2 := BP.f hc2
      refine Tri.skip ?_
      refine At.thn (hK5 _ _ ?_); clear hK5
      refine Tri.seq fun K8 hK8 => ?_
      refine Tri.region ?_
      refine st (OK1.as (Has.cI 1 rfl)) rfl ?_
      refine nl ?_
      refine At.thn (hK8 _ _ ?_); clear hK8
      refine Tri.ret ?_
      refine At.thr ?_
      refine rt1 (.inl rfl) Try.results147 rfl (.tmp (Has.t' rfl ?_) .nil)
      all_goals (exact isI_eq (cmp_len_gt (show (words _).length < (words _).length by omega)))
  · have hc1 := BP.f hc1
    refine Tri.skip ?_
    refine At.thn (hK3 _ _ ?_); clear hK3
    refine Tri.seq fun K9 hK9 => ?_
    refine Tri.seq fun K10 hK10 => ?_
    refine Tri.region ?_
    refine st (OK1.mv (Has.t rfl)) rfl ?_
    refine st (OK1.len sl53 (Has.t rfl)) rfl ?_
    refine st (OK1.subI (Has.t rfl) (Has.cI 1 rfl) (by first | omega | assumption) (by first | omega | assumption)) rfl ?_
    refine st (OK1.as (Has.t rfl)) rfl ?_
    refine nl ?_
    refine At.thn (hK10 _ _ ?_); clear hK10
    refine Tri.block ?_
    refine Tri.loopF [0, 1] (fun (z : { k : Nat // k ≤ (words (val xs)).length ∧ val xs / W ^ k = val ys / W ^ k }) => match z with | ⟨k, hI⟩ => [(5, isI ((k : Int) - 1))]) (fun M => fun (z : { k : Nat // k ≤ (words (val xs)).length ∧ val xs / W ^ k = val ys / W ^ k }) => match z with | ⟨k, hI⟩ => M) (fun (z : { k : Nat // k ≤ (words (val xs)).length ∧ val xs / W ^ k = val ys / W ^ k }) => match z with | ⟨k, hI⟩ => k) (⟨(words (val xs)).length, Nat.le_refl _, cmp_start (show (words _).length = (words _).length by omega)⟩) (Cv.mem (.cons (t := 5) (Has.t' rfl ?_) (.cons (t := 0) (Has.t rfl) (.cons (t := 1) (Has.t rfl) .nil))) ?_) ?_
    · rfl
    · rfl
    rintro ⟨k, hk, he⟩ K11 hK11
    refine Tri.cv (Cv.wk (.cons (t := 5) (Has.t rfl) (.cons (t := 0) (Has.t rfl) (.cons (t := 1) (Has.t rfl) .nil)))) ?_
    have ek : ((k : Int) - 1).toNat = k - 1 := by omega
    refine Tri.seq fun K12 hK12 => ?_
    refine Tri.seq fun K13 hK13 => ?_
    refine Tri.region ?_
    refine st (OK1.mv (Has.t rfl)) rfl ?_
    refine st (OK1.geI (Has.t rfl) (Has.cI 0 rfl)) rfl ?_
    refine nl ?_
    refine At.thn (hK13 _ _ ?_); clear hK13
    refine Tri.cond (Has.t rfl) (fun hc3 => ?_) (fun hc3 => ?_)
    · have hc3 := BP.t hc3
      refine Tri.skip ?_
      refine At.thn (hK12 _ _ ?_); clear hK12
      refine Tri.seq fun K14 hK14 => ?_
      refine Tri.block ?_
      refine Tri.block ?_
      refine Tri.seq fun K15 hK15 => ?_
      refine Tri.dr ?_
      refine DrG.st (i := 0) [] rfl rfl rfl (by kernel_rfl) (OKG.o rfl (OK1.mv (Has.t rfl))) ?_
      refine DrG.st (i := 1) [] rfl rfl rfl (by kernel_rfl) (OKG.o rfl (OK1.mv (Has.t rfl))) ?_
      refine DrG.st (i := 2) [28, 29] rfl rfl rfl (by kernel_rfl) (OKG.o rfl (OK1.ixP sl53 ty27 (Has.t rfl) (Has.t rfl) ⟨by omega, by omega⟩ (getD_some (d := 0) (by omega)))) ?_
      refine DrG.st (i := 3) [30] rfl rfl rfl (by kernel_rfl) (OKG.o rfl (OK1.loadP1 (Has.t rfl) ty27)) ?_
      refine DrG.st (i := 4) [] rfl rfl rfl (by kernel_rfl) (OKG.o rfl (OK1.mv (Has.t rfl))) ?_
      refine DrG.st (i := 5) [] rfl rfl rfl (by kernel_rfl) (OKG.o rfl (OK1.mv (Has.t rfl))) ?_
      refine DrG.st (i := 6) [32, 33] rfl rfl rfl (by kernel_rfl) (OKG.o rfl (OK1.ixP sl53 ty27 (Has.t rfl) (Has.t rfl) ⟨by omega, by omega⟩ (getD_some (d := 0) (by omega)))) ?_
      refine DrG.st (i := 7) [34] rfl rfl rfl (by kernel_rfl) (OKG.o rfl (OK1.loadP1 (Has.t rfl) ty27)) ?_
      refine DrG.fin (n := 8) mixed (by kernel_rfl) (by kernel_rfl) (by kernel_rfl) ?_
      refine Ops.cv (Cv.wk (.cons (t := 0) (Has.t rfl) (.cons (t := 1) (Has.t rfl) (.cons (t := 5) (Has.t rfl) (.cons (t := 23) (Has.t rfl) (.cons (t := 24) (Has.t rfl) (.cons (t := 28) (Has.t rfl) (.cons (t := 29) (Has.t rfl) (.cons (t := 30) (Has.t rfl) (.cons (t := 31) (Has.t rfl) (.cons (t := 32) (Has.t rfl) (.cons (t := 33) (Has.t rfl) (.cons (t := 34) (Has.t rfl) (.cons (t := 35) (Has.t rfl) .nil)))))))))))))) ?_
      refine st (OK1.ltU (Has.t rfl) (Has.t rfl)) rfl ?_
      refine st (OK1.as (Has.t rfl)) rfl ?_
      refine nl ?_
      refine At.thn (hK15 _ _ ?_); clear hK15
      refine Tri.cond (Has.t rfl) (fun hc4 => ?_) (fun hc4 => ?_)
      · have hc4 := BP.t hc4
        refine Tri.seq fun K16 hK16 => ?_
        refine Tri.region ?_
        refine st (OK1.as (Has.cI (-1) rfl)) rfl ?_
        refine nl ?_
        refine At.thn (hK16 _ _ ?_); clear hK16
        refine Tri.ret ?_
        refine At.blr ?_
        refine At.blr ?_
        refine At.thr ?_
        refine At.thr ?_
        refine At.blr ?_
        refine At.thr ?_
        refine rt1 (.inl rfl) Try.results147 rfl (.tmp (Has.t' rfl ?_) .nil)
        all_goals (rw [ek] at hc4; exact isI_eq (cmp_lt (by omega) he hc4))
      · have hc4 := BP.f hc4
        refine Tri.seq fun K17 hK17 => ?_
        refine Tri.dr ?_
        refine DrG.st (i := 0) [] rfl rfl rfl (by kernel_rfl) (OKG.o rfl (OK1.mv (Has.t rfl))) ?_
        refine DrG.st (i := 1) [] rfl rfl rfl (by kernel_rfl) (OKG.o rfl (OK1.mv (Has.t rfl))) ?_
        refine DrG.st (i := 2) [38, 39] rfl rfl rfl (by kernel_rfl) (OKG.o rfl (OK1.ixP sl53 ty27 (Has.t rfl) (Has.t rfl) ⟨by omega, by omega⟩ (getD_some (d := 0) (by omega)))) ?_
        refine DrG.st (i := 3) [40] rfl rfl rfl (by kernel_rfl) (OKG.o rfl (OK1.loadP1 (Has.t rfl) ty27)) ?_
        refine DrG.st (i := 4) [] rfl rfl rfl (by kernel_rfl) (OKG.o rfl (OK1.mv (Has.t rfl))) ?_
        refine DrG.st (i := 5) [] rfl rfl rfl (by kernel_rfl) (OKG.o rfl (OK1.mv (Has.t rfl))) ?_
        refine DrG.st (i := 6) [42, 43] rfl rfl rfl (by kernel_rfl) (OKG.o rfl (OK1.ixP sl53 ty27 (Has.t rfl) (Has.t rfl) ⟨by omega, by omega⟩ (getD_some (d := 0) (by omega)))) ?_
        refine DrG.st (i := 7) [44] rfl rfl rfl (by kernel_rfl) (OKG.o rfl (OK1.loadP1 (Has.t rfl) ty27)) ?_
        refine DrG.fin (n := 8) mixed (by kernel_rfl) (by kernel_rfl) (by kernel_rfl) ?_
        refine Ops.cv (Cv.wk (.cons (t := 0) (Has.t rfl) (.cons (t := 1) (Has.t rfl) (.cons (t := 5) (Has.t rfl) (.cons (t := 23) (Has.t rfl) (.cons (t := 24) (Has.t rfl) (.cons (t := 28) (Has.t rfl) (.cons (t := 29) (Has.t rfl) (.cons (t := 30) (Has.t rfl) (.cons (t := 31) (Has.t rfl) (.cons (t := 32) (Has.t rfl) (.cons (t := 33) (Has.t rfl) (.cons (t := 34) (Has.t rfl) (.cons (t := 35) (Has.t rfl) (.cons (t := 36) (Has.t rfl) (.cons (t := 27) (Has.t rfl) (.cons (t := 38) (Has.t rfl) (.cons (t := 39) (Has.t rfl) (.cons (t := 40) (Has.t rfl) (.cons (t := 41) (Has.t rfl) (.cons (t := 42) (Has.t rfl) (.cons (t := 43) (Has.t rfl) (.cons (t := 44) (Has.t rfl) (.cons (t := 45) (Has.t rfl) .nil)))))))))))))))))))))))) ?_
        refine st (OK1.gtU (Has.t rfl) (Has.t rfl)) rfl ?_
        refine st (OK1.as (Has.t rfl)) rfl ?_
        refine nl ?_
        refine At.thn (hK17 _ _ ?_); clear hK17
        refine Tri.cond (Has.t rfl) (fun hc5 => ?_) (fun hc5 => ?_)
        · have hc5 := BP.t hc5
          refine Tri.seq fun K18 hK18 => ?_
          refine Tri.region ?_
          refine st (OK1.as (Has.cI 1 rfl)) rfl ?_
          refine nl ?_
          refine At.thn (hK18 _ _ ?_); clear hK18
          refine Tri.ret ?_
          refine At.blr ?_
          refine At.blr ?_
          refine At.thr ?_
          refine At.thr ?_
          refine At.blr ?_
          refine At.thr ?_
          refine rt1 (.inl rfl) Try.results147 rfl (.tmp (Has.t' rfl ?_) .nil)
          all_goals (rw [ek] at hc5; exact isI_eq (cmp_gt (by omega) he hc5))
        · have hc5 := BP.f hc5
          refine Tri.skip ?_
          refine At.bln ?_
          refine At.bln ?_
          refine At.thn (hK14 _ _ ?_); clear hK14
          refine Tri.region ?_
          refine st (OK1.mv (Has.t rfl)) rfl ?_
          refine st (OK1.subI (Has.t rfl) (Has.cI 1 rfl) (by first | omega | assumption) (by first | omega | assumption)) rfl ?_
          refine st (OK1.as (Has.t rfl)) rfl ?_
          refine nl ?_
          refine At.thn ?_
          refine hK11 (⟨k - 1, by omega, cmp_step (by omega) he (by rw [ek] at hc4 hc5; omega)⟩) _ _ ?_ (Cv.mem (.cons (t := 5) (Has.t' rfl ?_) (.cons (t := 0) (Has.t rfl) (.cons (t := 1) (Has.t rfl) .nil))) ?_)
          · show k - 1 < k; omega
          · exact isI_eq (by show _ = ((k - 1 : Nat) : Int) - 1; omega)
          · rfl
    · have hc3 := BP.f hc3
      refine Tri.exit ?_
      refine At.the ?_
      refine At.the ?_
      refine At.blh ?_
      refine At.thn (hK9 _ _ ?_); clear hK9
      refine Tri.cv (Cv.wk .nil) ?_
      refine Tri.seq fun K19 hK19 => ?_
      refine Tri.region ?_
      refine st (OK1.as (Has.cI 0 rfl)) rfl ?_
      refine nl ?_
      refine At.thn (hK19 _ _ ?_); clear hK19
      refine Tri.ret ?_
      refine rt1 (.inl rfl) Try.results147 rfl (.tmp (Has.t' rfl ?_) .nil)
      all_goals (exact isI_eq (cmp_eq he (by omega)))
end Go.Proofs.Ytokhpacdgoebpaa
