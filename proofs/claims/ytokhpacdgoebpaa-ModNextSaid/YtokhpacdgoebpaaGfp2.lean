/- Contracts: references for fields, the laws' fixed fact. -/
import Derived.Test.YtokhpacdgoebpaaGfp1
namespace Go.Proofs.Ytokhpacdgoebpaa
open Go.En Go.RowKit
set_option linter.unusedVariables false
set_option maxRecDepth 10000
open Go.Gf
set_option maxHeartbeats 4000000 in
theorem ref06_Prime {p : Nat} (hp : p < 2147483648) : Ctr Try.prog 62 [isI (p : Int)] (isB (pr p)) := by
  refine Ctr.intro Try.func62 rfl (by kernel_rfl) Try.ntmps62 rfl fun w0 F0 => ?_
  refine Tri.cv (Cv.wk (.cons (t := 0) (Has.t rfl) .nil)) ?_
  refine Tri.fact (Has.rngI (Has.t (t := 0) rfl)) fun lt0 => ?_
  refine Tri.seq fun K1 hK1 => ?_
  refine Tri.region ?_
  refine st (OK1.as (Has.cB false)) rfl ?_
  refine nl ?_
  refine At.thn (hK1 _ _ ?_); clear hK1
  refine Tri.seq fun K2 hK2 => ?_
  refine Tri.seq fun K3 hK3 => ?_
  refine Tri.region ?_
  refine st (OK1.mv (Has.t rfl)) rfl ?_
  refine st (OK1.ltI (Has.t rfl) (Has.cI 2 rfl)) rfl ?_
  refine nl ?_
  refine At.thn (hK3 _ _ ?_); clear hK3
  refine Tri.cond (Has.t rfl) (fun hc1 => ?_) (fun hc1 => ?_)
  · have hc1 := BP.t hc1
    refine Tri.seq fun K4 hK4 => ?_
    refine Tri.region ?_
    refine st (OK1.as (Has.cB false)) rfl ?_
    refine nl ?_
    refine At.thn (hK4 _ _ ?_); clear hK4
    refine Tri.ret ?_
    refine At.thr ?_
    refine rt1 (.inl rfl) Try.results62 rfl (.tmp (Has.t' rfl ?_) .nil)
    all_goals (exact isB_eq (pr_false (.inl (fun h => by have := h.1; omega))).symm)
  · have hc1 := BP.f hc1
    refine Tri.skip ?_
    refine At.thn (hK2 _ _ ?_); clear hK2
    refine Tri.seq fun K5 hK5 => ?_
    refine Tri.seq fun K6 hK6 => ?_
    refine Tri.region ?_
    refine st (OK1.as (Has.cI 2 rfl)) rfl ?_
    refine nl ?_
    refine At.thn (hK6 _ _ ?_); clear hK6
    refine Tri.block ?_
    refine Tri.loopF [0] (fun (z : { d : Nat // 2 ≤ d ∧ d ≤ p ∧ NoDiv p d }) => match z with | ⟨d, hI⟩ => [(3, isI (d : Int))]) (fun M => fun (z : { d : Nat // 2 ≤ d ∧ d ≤ p ∧ NoDiv p d }) => match z with | ⟨d, hI⟩ => M) (fun (z : { d : Nat // 2 ≤ d ∧ d ≤ p ∧ NoDiv p d }) => match z with | ⟨d, hI⟩ => p - d) (⟨2, by omega, by omega, noDiv_two p⟩) (Cv.mem (.cons (t := 3) (Has.t' rfl ?_) (.cons (t := 0) (Has.t rfl) .nil)) ?_) ?_
    · rfl
    · rfl
    rintro ⟨d, hd1, hd2, hd4⟩ K7 hK7
    refine Tri.cv (Cv.wk (.cons (t := 3) (Has.t rfl) (.cons (t := 0) (Has.t rfl) .nil))) ?_
    have hdd := Int.natCast_ediv p d
    refine Tri.seq fun K8 hK8 => ?_
    refine Tri.seq fun K9 hK9 => ?_
    refine Tri.region ?_
    refine st (OK1.mv (Has.t rfl)) rfl ?_
    refine st (OK1.mv (Has.t rfl)) rfl ?_
    refine st (OK1.mv (Has.t rfl)) rfl ?_
    refine st (OK1.quoI (Has.t rfl) (Has.t rfl) (by first | omega | assumption) (by first | omega | assumption) (by first | omega | assumption)) rfl ?_
    refine st (OK1.leI (Has.t rfl) (Has.t rfl)) rfl ?_
    refine nl ?_
    refine At.thn (hK9 _ _ ?_); clear hK9
    refine Tri.cond (Has.t rfl) (fun hc2 => ?_) (fun hc2 => ?_)
    · have hc2 := BP.t hc2
      refine Tri.skip ?_
      refine At.thn (hK8 _ _ ?_); clear hK8
      refine Tri.seq fun K10 hK10 => ?_
      refine Tri.block ?_
      refine Tri.seq fun K11 hK11 => ?_
      refine Tri.region ?_
      refine st (OK1.mv (Has.t rfl)) rfl ?_
      refine st (OK1.mv (Has.t rfl)) rfl ?_
      refine st (OK1.remI (Has.t rfl) (Has.t rfl) (by first | omega | assumption) (by first | omega | assumption) (by first | omega | assumption)) rfl ?_
      refine st (OK1.eqI (Has.t rfl) (Has.cI 0 rfl)) rfl ?_
      refine nl ?_
      refine At.thn (hK11 _ _ ?_); clear hK11
      refine Tri.cond (Has.t rfl) (fun hc3 => ?_) (fun hc3 => ?_)
      · have hc3 := BP.t hc3
        refine Tri.seq fun K12 hK12 => ?_
        refine Tri.region ?_
        refine st (OK1.as (Has.cB false)) rfl ?_
        refine nl ?_
        refine At.thn (hK12 _ _ ?_); clear hK12
        refine Tri.ret ?_
        refine At.blr ?_
        refine At.thr ?_
        refine At.thr ?_
        refine At.blr ?_
        refine At.thr ?_
        refine rt1 (.inl rfl) Try.results62 rfl (.tmp (Has.t' rfl ?_) .nil)
        all_goals (exact isB_eq (pr_false (.inl (not_prime_of_div hd1 (mul_le_of (by omega : d ≤ p / d)) (by omega)))).symm)
      · have hc3 := BP.f hc3
        refine Tri.skip ?_
        refine At.bln ?_
        refine At.thn (hK10 _ _ ?_); clear hK10
        refine Tri.region ?_
        refine st (OK1.mv (Has.t rfl)) rfl ?_
        refine st (OK1.addI (Has.t rfl) (Has.cI 1 rfl) (by first | omega | assumption) (by first | omega | assumption)) rfl ?_
        refine st (OK1.as (Has.t rfl)) rfl ?_
        refine nl ?_
        refine At.thn ?_
        have hlt := div_lt_of hd1 (by omega : d ≤ p / d)
        refine hK7 (⟨d + 1, by omega, by omega, noDiv_succ hd4 (by omega)⟩) _ _ ?_ (Cv.mem (.cons (t := 3) (Has.t' rfl ?_) (.cons (t := 0) (Has.t rfl) .nil)) ?_)
        · show p - (d + 1) < p - d; omega
        · rfl
        · rfl
    · have hc2 := BP.f hc2
      refine Tri.exit ?_
      refine At.the ?_
      refine At.the ?_
      refine At.blh ?_
      refine At.thn (hK5 _ _ ?_); clear hK5
      refine Tri.cv (Cv.wk .nil) ?_
      refine Tri.seq fun K13 hK13 => ?_
      refine Tri.region ?_
      refine st (OK1.as (Has.cB true)) rfl ?_
      refine nl ?_
      refine At.thn (hK13 _ _ ?_); clear hK13
      refine Tri.ret ?_
      refine rt1 (.inl rfl) Try.results62 rfl (.tmp (Has.t' rfl ?_) .nil)
      all_goals (exact isB_eq (pr_iff.2 ⟨prime_of_noDiv (by omega) hd4 (lt_mul_of (by omega) (by omega : p / d < d)), by omega⟩).symm)

set_option maxHeartbeats 4000000 in
theorem ref08_P {n : Nat} : Ctr Try.prog 18 [isK .u8 (n : Int)] (isU (ptab (n % 12))) := by
  refine Ctr.intro Try.func18 rfl (by kernel_rfl) Try.ntmps18 rfl fun w0 F0 => ?_
  refine Tri.cv (Cv.wk (.cons (t := 0) (Has.t rfl) .nil)) ?_
  refine Tri.fact (Has.rngK (Has.t (t := 0) rfl)) fun lt0 => ?_
  simp only [IntKind.min, IntKind.max, IntKind.signed, IntKind.bits] at lt0
  refine Tri.seq fun K1 hK1 => ?_
  refine Tri.region ?_
  refine st (OK1.as (Has.cU 0 rfl)) rfl ?_
  refine nl ?_
  refine At.thn (hK1 _ _ ?_); clear hK1
  refine Tri.seq fun K2 hK2 => ?_
  refine Tri.region ?_
  refine st (OK1.buildA [isU 0, isU 0, isU 0, isU 0, isU 0, isU 0, isU 0, isU 0, isU 0, isU 0, isU 0, isU 0] arr93 ty27 zero93 (fun _ _ => ⟨⟨rfl, by decide⟩, ⟨rfl, by decide⟩, ⟨rfl, by decide⟩, ⟨rfl, by decide⟩, ⟨rfl, by decide⟩, ⟨rfl, by decide⟩, ⟨rfl, by decide⟩, ⟨rfl, by decide⟩, ⟨rfl, by decide⟩, ⟨rfl, by decide⟩, ⟨rfl, by decide⟩, ⟨rfl, by decide⟩, trivial⟩) (.cons (Has.cU 2 rfl) rfl rfl rfl (.cons (Has.cU 3 rfl) rfl rfl rfl (.cons (Has.cU 5 rfl) rfl rfl rfl (.cons (Has.cU 7 rfl) rfl rfl rfl (.cons (Has.cU 11 rfl) rfl rfl rfl (.cons (Has.cU 13 rfl) rfl rfl rfl (.cons (Has.cU 101 rfl) rfl rfl rfl (.cons (Has.cU 65537 rfl) rfl rfl rfl (.cons (Has.cU 1000003 rfl) rfl rfl rfl (.cons (Has.cU 1073741827 rfl) rfl rfl rfl (.cons (Has.cU 2147483629 rfl) rfl rfl rfl (.cons (Has.cU 2147483647 rfl) rfl rfl rfl .nil)))))))))))) (Z'' := [isU 2, isU 3, isU 5, isU 7, isU 11, isU 13, isU 101, isU 65537, isU 1000003, isU 1073741827, isU 2147483629, isU 2147483647]) rfl) rfl ?_
  refine st (OK1.mv (Has.t rfl)) rfl ?_
  refine st (OK1.remK (Has.t rfl) (Has.cK .u8 12 rfl) (by first | omega | decide | (simp only [IntKind.max, IntKind.signed, IntKind.bits]; simp; omega)) (by first | omega | decide | (simp only [IntKind.max, IntKind.signed, IntKind.bits]; simp; omega)) (by first | omega | decide | (simp only [IntKind.max, IntKind.signed, IntKind.bits]; simp; omega))) rfl ?_
  refine st (OK1.idx arr93 ty27 (Has.t rfl) (evK (Has.t rfl)) (by first | omega | decide | (simp only [IntKind.max, IntKind.signed, IntKind.bits]; simp; omega)) (by first | omega | decide | (simp only [IntKind.max, IntKind.signed, IntKind.bits]; simp; omega)) (ptab_get n isU)) rfl ?_
  refine st (OK1.as (Has.t rfl)) rfl ?_
  refine nl ?_
  refine At.thn (hK2 _ _ ?_); clear hK2
  refine Tri.cv (Cv.wk (.cons (t := 2) (Has.t rfl) .nil)) ?_
  refine Tri.ret ?_
  refine rt1 (.inl rfl) Try.results18 rfl (.tmp (Has.t' rfl ?_) .nil)
  all_goals (rfl)

set_option maxHeartbeats 4000000 in
theorem ref08_Mul {a b p : Nat} (hp : 0 < p) (hp2 : p < 4294967296) : Ctr Try.prog 40 [isU a, isU b, isU p] (isU (a * b % p)) := by
  refine Ctr.intro Try.func40 rfl (by kernel_rfl) Try.ntmps40 rfl fun w0 F0 => ?_
  refine Tri.cv (Cv.wk (.cons (t := 0) (Has.t rfl) (.cons (t := 1) (Has.t rfl) (.cons (t := 2) (Has.t rfl) .nil)))) ?_
  refine Tri.fact (Has.ltU (Has.t (t := 0) rfl)) fun lt0 => ?_
  refine Tri.fact (Has.ltU (Has.t (t := 1) rfl)) fun lt1 => ?_
  refine Tri.fact (Has.ltU (Has.t (t := 2) rfl)) fun lt2 => ?_
  have hx := Nat.mod_lt a hp
  have hy := Nat.mod_lt b hp
  refine Tri.seq fun K1 hK1 => ?_
  refine Tri.region ?_
  refine st (OK1.as (Has.cU 0 rfl)) rfl ?_
  refine nl ?_
  refine At.thn (hK1 _ _ ?_); clear hK1
  refine Tri.seq fun K2 hK2 => ?_
  refine Tri.dr ?_
  refine DrG.st (i := 0) [] rfl rfl rfl (by kernel_rfl) (OKG.o rfl (OK1.mv (Has.t rfl))) ?_
  refine DrG.st (i := 1) [] rfl rfl rfl (by kernel_rfl) (OKG.o rfl (OK1.mv (Has.t rfl))) ?_
  refine DrG.st (i := 2) [11, 12] rfl rfl rfl (by kernel_rfl) (OKG.o rfl (OK1.remU (Has.t rfl) (Has.t rfl) (by first | omega | assumption) (by first | omega | assumption))) ?_
  refine DrG.st (i := 3) [] rfl rfl rfl (by kernel_rfl) (OKG.o rfl (OK1.mv (Has.t rfl))) ?_
  refine DrG.st (i := 4) [] rfl rfl rfl (by kernel_rfl) (OKG.o rfl (OK1.mv (Has.t rfl))) ?_
  refine DrG.st (i := 5) [14, 15] rfl rfl rfl (by kernel_rfl) (OKG.o rfl (OK1.remU (Has.t rfl) (Has.t rfl) (by first | omega | assumption) (by first | omega | assumption))) ?_
  refine DrG.st (i := 6) [13] rfl rfl rfl (by kernel_rfl) (OKG.o rfl (OK1.as (Has.t rfl))) ?_
  refine DrG.fin (n := 7) mixed (by kernel_rfl) (by kernel_rfl) (by kernel_rfl) ?_
  refine Ops.cv (Cv.wk (.cons (t := 2) (Has.t rfl) (.cons (t := 6) (Has.t rfl) (.cons (t := 16) (Has.t rfl) (.cons (t := 7) (Has.t rfl) .nil))))) ?_
  refine st (OK1.as (Has.t rfl)) rfl ?_
  refine nl ?_
  refine At.thn (hK2 _ _ ?_); clear hK2
  refine Tri.seq fun K3 hK3 => ?_
  refine Tri.region ?_
  refine st (OK1.as (Has.cU 0 rfl)) rfl ?_
  refine nl ?_
  refine At.thn (hK3 _ _ ?_); clear hK3
  refine Tri.seq fun K4 hK4 => ?_
  refine Tri.seq fun K5 hK5 => ?_
  refine Tri.region ?_
  refine st (OK1.as (Has.cI 31 rfl)) rfl ?_
  refine nl ?_
  refine At.thn (hK5 _ _ ?_); clear hK5
  refine Tri.block ?_
  refine Tri.loopF [2, 6, 7, 8] (fun (z : { z : Nat × Nat // z.1 ≤ 32 ∧ z.2 < p ∧ z.2 = (a % p) * ((b % p) / 2 ^ z.1) % p }) => match z with | ⟨(k, o), hI⟩ => [(10, isI ((k : Int) - 1)), (9, isU o)]) (fun M => fun (z : { z : Nat × Nat // z.1 ≤ 32 ∧ z.2 < p ∧ z.2 = (a % p) * ((b % p) / 2 ^ z.1) % p }) => match z with | ⟨(k, o), hI⟩ => M) (fun (z : { z : Nat × Nat // z.1 ≤ 32 ∧ z.2 < p ∧ z.2 = (a % p) * ((b % p) / 2 ^ z.1) % p }) => match z with | ⟨(k, o), hI⟩ => k) (⟨(32, 0), by omega, hp, mul_start hp hp2⟩) (Cv.mem (.cons (t := 10) (Has.t' rfl ?_) (.cons (t := 9) (Has.t' rfl ?_) (.cons (t := 2) (Has.t rfl) (.cons (t := 6) (Has.t rfl) (.cons (t := 7) (Has.t rfl) (.cons (t := 8) (Has.t rfl) .nil)))))) ?_) ?_
  · rfl
  · rfl
  · rfl
  rintro ⟨⟨k, o⟩, hk, ho, hI⟩ K6 hK6
  refine Tri.cv (Cv.wk (.cons (t := 10) (Has.t rfl) (.cons (t := 9) (Has.t rfl) (.cons (t := 2) (Has.t rfl) (.cons (t := 6) (Has.t rfl) (.cons (t := 7) (Has.t rfl) (.cons (t := 8) (Has.t rfl) .nil))))))) ?_
  simp only [] at hk ho hI
  refine Tri.seq fun K7 hK7 => ?_
  refine Tri.seq fun K8 hK8 => ?_
  refine Tri.region ?_
  refine st (OK1.mv (Has.t rfl)) rfl ?_
  refine st (OK1.geI (Has.t rfl) (Has.cI 0 rfl)) rfl ?_
  refine nl ?_
  refine At.thn (hK8 _ _ ?_); clear hK8
  refine Tri.cond (Has.t rfl) (fun hc1 => ?_) (fun hc1 => ?_)
  · have hc1 := BP.t hc1
    have hm := Nat.mod_lt (2 * o) hp
    refine Tri.skip ?_
    refine At.thn (hK7 _ _ ?_); clear hK7
    refine Tri.seq fun K9 hK9 => ?_
    refine Tri.block ?_
    refine Tri.seq fun K10 hK10 => ?_
    refine Tri.region ?_
    refine st (OK1.mv (Has.t rfl)) rfl ?_
    refine st (OK1.mulU' (Has.cU 2 rfl) (Has.t rfl) (by first | omega | assumption)) rfl ?_
    refine st (OK1.mv (Has.t rfl)) rfl ?_
    refine st (OK1.remU (Has.t rfl) (Has.t rfl) (by first | omega | assumption) (by first | omega | assumption)) rfl ?_
    refine st (OK1.as (Has.t rfl)) rfl ?_
    refine nl ?_
    refine At.thn (hK10 _ _ ?_); clear hK10
    refine Tri.seq fun K11 hK11 => ?_
    refine Tri.region ?_
    refine st (OK1.mv (Has.t rfl)) rfl ?_
    refine st (OK1.mv (Has.t rfl)) rfl ?_
    refine st (OK1.convIU un3 un27 (Has.t rfl) (by first | omega | exact ⟨by omega, by omega⟩ | exact Nat.lt_of_le_of_lt (Nat.div_le_self _ _) (by omega)) (by first | omega | exact ⟨by omega, by omega⟩ | exact Nat.lt_of_le_of_lt (Nat.div_le_self _ _) (by omega))) rfl ?_
    refine st (OK1.shrUU (Has.t rfl) (Has.t rfl) (by first | omega | exact ⟨by omega, by omega⟩ | exact Nat.lt_of_le_of_lt (Nat.div_le_self _ _) (by omega))) rfl ?_
    refine st (OK1.remU (Has.t rfl) (Has.cU 2 rfl) (by first | omega | exact ⟨by omega, by omega⟩ | exact Nat.lt_of_le_of_lt (Nat.div_le_self _ _) (by omega)) (by first | omega | exact ⟨by omega, by omega⟩ | exact Nat.lt_of_le_of_lt (Nat.div_le_self _ _) (by omega))) rfl ?_
    refine st (OK1.eqU (Has.t rfl) (Has.cU 1 rfl)) rfl ?_
    refine nl ?_
    refine At.thn (hK11 _ _ ?_); clear hK11
    refine Tri.cond (Has.t rfl) (fun hc2 => ?_) (fun hc2 => ?_)
    · have hc2 := BP.t hc2
      refine Tri.region ?_
      refine st (OK1.mv (Has.t rfl)) rfl ?_
      refine st (OK1.mv (Has.t rfl)) rfl ?_
      refine st (OK1.addU' (Has.t rfl) (Has.t rfl) (by first | omega | assumption)) rfl ?_
      refine st (OK1.mv (Has.t rfl)) rfl ?_
      refine st (OK1.remU (Has.t rfl) (Has.t rfl) (by first | omega | assumption) (by first | omega | assumption)) rfl ?_
      refine st (OK1.as (Has.t rfl)) rfl ?_
      refine nl ?_
      refine At.bln ?_
      refine At.thn (hK9 _ _ ?_); clear hK9
      refine Tri.region ?_
      refine st (OK1.mv (Has.t rfl)) rfl ?_
      refine st (OK1.subI (Has.t rfl) (Has.cI 1 rfl) (by first | omega | assumption) (by first | omega | assumption)) rfl ?_
      refine st (OK1.as (Has.t rfl)) rfl ?_
      refine nl ?_
      refine At.thn ?_
      have hm := Nat.mod_lt (2 * o) hp
      refine hK6 (⟨(k - 1, (2 * o % p + a % p) % p), by show k - 1 ≤ 32; omega, Nat.mod_lt _ hp, mul_step1 (by omega) hI (by have h := hc2; rwa [show ((k : Int) - 1).toNat = k - 1 by omega] at h)⟩) _ _ ?_ (Cv.mem (.cons (t := 10) (Has.t' rfl ?_) (.cons (t := 9) (Has.t' rfl ?_) (.cons (t := 2) (Has.t rfl) (.cons (t := 6) (Has.t rfl) (.cons (t := 7) (Has.t rfl) (.cons (t := 8) (Has.t rfl) .nil)))))) ?_)
      · show k - 1 < k; omega
      · exact isI_eq (by show _ = ((k - 1 : Nat) : Int) - 1; omega)
      · rfl
      · rfl
    · have hc2 := BP.f hc2
      refine Tri.skip ?_
      refine At.bln ?_
      refine At.thn (hK9 _ _ ?_); clear hK9
      refine Tri.region ?_
      refine st (OK1.mv (Has.t rfl)) rfl ?_
      refine st (OK1.subI (Has.t rfl) (Has.cI 1 rfl) (by first | omega | assumption) (by first | omega | assumption)) rfl ?_
      refine st (OK1.as (Has.t rfl)) rfl ?_
      refine nl ?_
      refine At.thn ?_
      refine hK6 (⟨(k - 1, 2 * o % p), by show k - 1 ≤ 32; omega, Nat.mod_lt _ hp, mul_step0 (by omega) hI (by have h := hc2; rwa [show ((k : Int) - 1).toNat = k - 1 by omega] at h)⟩) _ _ ?_ (Cv.mem (.cons (t := 10) (Has.t' rfl ?_) (.cons (t := 9) (Has.t' rfl ?_) (.cons (t := 2) (Has.t rfl) (.cons (t := 6) (Has.t rfl) (.cons (t := 7) (Has.t rfl) (.cons (t := 8) (Has.t rfl) .nil)))))) ?_)
      · show k - 1 < k; omega
      · exact isI_eq (by show _ = ((k - 1 : Nat) : Int) - 1; omega)
      · rfl
      · rfl
  · have hc1 := BP.f hc1
    refine Tri.exit ?_
    refine At.the ?_
    refine At.the ?_
    refine At.blh ?_
    refine At.thn (hK4 _ _ ?_); clear hK4
    refine Tri.cv (Cv.wk (.cons (t := 6) (Has.t rfl) (.cons (t := 9) (Has.t rfl) .nil))) ?_
    refine Tri.seq fun K12 hK12 => ?_
    refine Tri.region ?_
    refine st (OK1.mv (Has.t rfl)) rfl ?_
    refine st (OK1.as (Has.t rfl)) rfl ?_
    refine nl ?_
    refine At.thn (hK12 _ _ ?_); clear hK12
    refine Tri.ret ?_
    refine rt1 (.inl rfl) Try.results40 rfl (.tmp (Has.t' rfl ?_) .nil)
    all_goals (exact isU_eq (mul_end hI (by omega)))

theorem awake_new : Ctr Try.prog 54 [isU 7] (isTup [Flat [isU 7], isB true]) := gfp_New_yes (by decide)

set_option maxHeartbeats 4000000 in
theorem law08_awake  : Ctr Try.prog 53 [] (isB true) := by
  refine Ctr.intro Try.func53 rfl (by kernel_rfl) Try.ntmps53 rfl fun w0 F0 => ?_
  refine Tri.cv (Cv.wk .nil) ?_
  refine Tri.seq fun K1 hK1 => ?_
  refine Tri.region ?_
  refine st (OK1.as (Has.cB false)) rfl ?_
  refine nl ?_
  refine At.thn (hK1 _ _ ?_); clear hK1
  refine Tri.seq fun K2 hK2 => ?_
  refine Tri.region ?_
  refine st (OK1.call awake_new (.cons (Has.cU 7 rfl) .nil)) rfl ?_
  refine st (OK1.mv (Has.t rfl)) rfl ?_
  refine st (OK1.ext (Has.t rfl) rfl) rfl ?_
  refine st (OK1.ext (Has.t rfl) rfl) rfl ?_
  refine Ops.alloc [isU 0] zero29 (fun _ _ => ⟨⟨rfl, by decide⟩, trivial⟩) rfl fun b1 => ?_
  refine Ops.store (Has.t rfl) (Has.t rfl) (i := 0) rfl ty29 rfl rfl (Ss' := [_]) rfl (M' := [(some _, cellM [_])]) rfl ?_
  refine st (OK1.as (Has.t rfl)) rfl ?_
  refine nl ?_
  refine At.thn (hK2 _ _ ?_); clear hK2
  refine Tri.seq fun K3 hK3 => ?_
  refine Tri.region ?_
  refine st (OK1.mv (Has.t rfl)) rfl ?_
  refine st (OK1.mv (Has.t rfl)) rfl ?_
  refine stT rfl rfl (fun hg => have hg' := BP.t hg; OK1.load (Has.t rfl) (i := 0) rfl ty29 rfl (Ss' := [_]) rfl) rfl ?_
  refine stT rfl rfl (fun hg => have hg' := BP.t hg; OK1.call (gfp_P) (.cons (Has.g rfl hg) .nil)) rfl ?_
  refine stT rfl rfl (fun hg => have hg' := BP.t hg; OK1.eqU (Has.g rfl hg) (Has.cU 7 rfl)) rfl ?_
  refine st (OK1.pickAnd (Has.t rfl) (fun h => Has.g rfl h)) rfl ?_
  refine st (OK1.mv (Has.t rfl)) rfl ?_
  refine stT rfl rfl (fun hg => have hg' := BP.t hg; OK1.load (Has.t rfl) (i := 0) rfl ty29 rfl (Ss' := [_]) rfl) rfl ?_
  refine stT rfl rfl (fun hg => have hg' := BP.t hg; OK1.call (gfp_Inv (by first | omega | decide) (by first | omega | decide)) (.cons (Has.g rfl hg) (.cons (Has.cU 3 rfl) .nil))) rfl ?_
  refine stT rfl rfl (fun hg => have hg' := BP.t hg; OK1.eqU (Has.g rfl hg) (Has.cU 5 rfl)) rfl ?_
  refine st (OK1.pickAnd (Has.t rfl) (fun h => Has.g rfl h)) rfl ?_
  refine st (OK1.as (Has.t rfl)) rfl ?_
  refine nl ?_
  refine At.thn (hK3 _ _ ?_); clear hK3
  refine Tri.cv (Cv.wk (.cons (t := 0) (Has.t rfl) .nil)) ?_
  refine Tri.ret ?_
  refine rt1 (.inl rfl) Try.results53 rfl (.tmp (Has.t' rfl ?_) .nil)
  all_goals (exact isB_eq (by decide))
end Go.Proofs.Ytokhpacdgoebpaa
