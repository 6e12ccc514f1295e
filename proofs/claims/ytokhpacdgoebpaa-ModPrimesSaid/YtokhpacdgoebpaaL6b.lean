/- A law of layer 6: primes, as a contract. -/
import Derived.Test.YtokhpacdgoebpaaMo1
import Derived.Test.YtokhpacdgoebpaaGfp2
namespace Go.Proofs.Ytokhpacdgoebpaa
open Go.En Go.RowKit
set_option linter.unusedVariables false
set_option maxRecDepth 10000
open Go.Nt
theorem primes_all {n big : Nat} : (true && Gf.pr n == Gf.pr n && (decide (big < 2147483648) || !Gf.pr big)) = true := by
  rcases Nat.lt_or_ge big 2147483648 with h | h
  · simp [h]
  · simp [Gf.pr_false (.inr h)]


set_option maxHeartbeats 4000000 in
theorem c_ModPrimes (p big : Nat) : Ctr Try.prog 10 [isK .u32 (p : Int), isU big] (isB true) := by
  refine Ctr.intro Try.func10 rfl (by kernel_rfl) Try.ntmps10 rfl fun w0 F0 => ?_
  refine Tri.cv (Cv.wk (.cons (t := 0) (Has.t rfl) (.cons (t := 1) (Has.t rfl) .nil))) ?_
  refine Tri.fact (Has.ltU (Has.t (t := 1) rfl)) fun lt1 => ?_
  refine Tri.fact (Has.rngK (Has.t (t := 0) rfl)) fun lt0 => ?_
  simp only [IntKind.min, IntKind.max, IntKind.signed, IntKind.bits] at lt0
  have hk : IntKind.u32.max = 4294967295 := by decide
  have hn : ((p : Int) % 2147483648).toNat < 2147483648 := by omega
  refine Tri.seq fun K1 hK1 => ?_
  refine Tri.region ?_
  refine st (OK1.as (Has.cB false)) rfl ?_
  refine nl ?_
  refine At.thn (hK1 _ _ ?_); clear hK1
  refine Tri.seq fun K2 hK2 => ?_
  refine Tri.region ?_
  refine st (OK1.mv (Has.t rfl)) rfl ?_
  refine st (OK1.remK (Has.t rfl) (Has.cK .u32 2147483648 rfl) (by first | omega | decide | (rw [hk]; omega) | (simp; omega)) (by first | omega | decide | (rw [hk]; omega) | (simp; omega)) (by first | omega | decide | (rw [hk]; omega) | (simp; omega))) rfl ?_
  refine st (OK1.convKU un71 un27 (Has.t rfl) (by first | omega | decide | (rw [hk]; omega) | (simp; omega)) (by first | omega | decide | (rw [hk]; omega) | (simp; omega))) rfl ?_
  refine st (OK1.as (Has.t rfl)) rfl ?_
  refine nl ?_
  refine At.thn (hK2 _ _ ?_); clear hK2
  refine Tri.seq fun K3 hK3 => ?_
  refine Tri.region ?_
  refine st (OK1.call (law06_awake) .nil) rfl ?_
  refine st (OK1.mv (Has.t rfl)) rfl ?_
  refine stT rfl rfl (fun hg => have hg' := BP.t hg; OK1.mv (Has.t rfl)) rfl ?_
  refine stT rfl rfl (fun hg => have hg' := BP.t hg; OK1.call modn_Prime (.cons (Has.g rfl hg) .nil)) rfl ?_
  refine stT rfl rfl (fun hg => have hg' := BP.t hg; OK1.mv (Has.t rfl)) rfl ?_
  refine stT rfl rfl (fun hg => have hg' := BP.t hg; OK1.convUI un27 un3 (Has.g rfl hg) (by first | omega | decide | (rw [hk]; omega) | (simp; omega))) rfl ?_
  refine stT rfl rfl (fun hg => have hg' := BP.t hg; OK1.call (ref06_Prime hn) (.cons (Has.g rfl hg) .nil)) rfl ?_
  refine stT rfl rfl (fun hg => have hg' := BP.t hg; OK1.eqB (du := un4) rfl (Has.g rfl hg) (Has.g rfl hg)) rfl ?_
  refine st (OK1.pickAnd (Has.t rfl) (fun h => Has.g rfl h)) rfl ?_
  refine st (OK1.mv (Has.t rfl)) rfl ?_
  refine stT rfl rfl (fun hg => have hg' := BP.t hg; OK1.mv (Has.t rfl)) rfl ?_
  refine stT rfl rfl (fun hg => have hg' := BP.t hg; OK1.ltU (Has.g rfl hg) (Has.cU 2147483648 rfl)) rfl ?_
  refine stT rfl rfl (fun hg => have hg' := BP.t hg; OK1.mv (Has.g rfl hg)) rfl ?_
  refine stGF rfl rfl (fun hg => have hg' := BP.t hg; OK1.mv (Has.t rfl)) rfl ?_
  refine stGF rfl rfl (fun hg => have hg' := BP.t hg; OK1.call modn_Prime (.cons (Has.g rfl hg) .nil)) rfl ?_
  refine stGF rfl rfl (fun hg => have hg' := BP.t hg; OK1.not (Has.g rfl hg)) rfl ?_
  refine stT rfl rfl (fun hg => have hg' := BP.t hg; OK1.pickOr (Has.g rfl hg) (fun h => Has.g rfl (gn hg h))) rfl ?_
  refine st (OK1.pickAnd (Has.t rfl) (fun h => Has.g rfl h)) rfl ?_
  refine st (OK1.as (Has.t rfl)) rfl ?_
  refine nl ?_
  refine At.thn (hK3 _ _ ?_); clear hK3
  refine Tri.cv (Cv.wk (.cons (t := 4) (Has.t rfl) .nil)) ?_
  refine Tri.ret ?_
  refine rt1 (.inl rfl) Try.results10 rfl (.tmp (Has.t' rfl ?_) .nil)
  all_goals (exact isB_eq primes_all)
end Go.Proofs.Ytokhpacdgoebpaa
