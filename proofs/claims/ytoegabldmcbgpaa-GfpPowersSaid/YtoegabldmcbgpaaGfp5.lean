/- A law of layer 8 over words: powers. -/
import Derived.Test.YtoegabldmcbgpaaGfp2
import Derived.Test.YtoegabldmcbgpaaRows
namespace Go.Proofs.Ytoegabldmcbgpaa
open Go.En Go.RowKit
set_option linter.unusedVariables false
set_option maxRecDepth 10000
open Go.Gf
open Go.ChangeShapes Go.WideShapes Go.ChangeAt
theorem c_GfpPowers (n a : Nat) (e : Int) : Ctr Try.prog 7 [isK .u8 (n : Int), isU a, isK .i8 e] (isB true) := by
  refine Ctr.intro Try.func7 rfl (by kernel_rfl) Try.ntmps7 rfl fun w0 F0 => ?_
  refine Tri.cv (Cv.wk (.cons (t := 0) (Has.t rfl) (.cons (t := 1) (Has.t rfl) (.cons (t := 2) (Has.t rfl) .nil)))) ?_
  refine Tri.fact (Has.rngK (Has.t (t := 2) rfl)) fun lt2 => ?_
  simp only [IntKind.min, IntKind.max, IntKind.signed, IntKind.bits] at lt2
  refine Tri.fact (Has.ltU (Has.t (t := 1) rfl)) fun lt1 => ?_
  have hpl := ptab_le (k := n % 12)
  have hp2 := ptab_two (n % 12)
  have hfp := ptab_fp (n % 12)
  have hkk := tmod41 e
  refine Tri.seq fun K1 hK1 => ?_
  refine Tri.region ?_
  refine st (OK1.as (Has.cB false)) rfl ?_
  refine nl ?_
  refine At.thn (hK1 _ _ ?_); clear hK1
  refine Tri.seq fun K2 hK2 => ?_
  refine Tri.region ?_
  refine st (OK1.mv (Has.t rfl)) rfl ?_
  refine st (OK1.call ref08_P (.cons (Has.t rfl) .nil)) rfl ?_
  refine st (OK1.as (Has.t rfl)) rfl ?_
  refine nl ?_
  refine At.thn (hK2 _ _ ?_); clear hK2
  refine Tri.seq fun K3 hK3 => ?_
  refine Tri.region ?_
  refine st (OK1.mv (Has.t rfl)) rfl ?_
  refine st (OK1.call (gfp_New_yes (ptab_pr _)) (.cons (Has.t rfl) .nil)) rfl ?_
  refine st (OK1.mv (Has.t rfl)) rfl ?_
  refine st (OK1.ext (Has.t rfl) rfl) rfl ?_
  refine st (OK1.ext (Has.t rfl) rfl) rfl ?_
  refine Ops.alloc [isU 0] zero25 (fun _ _ => ⟨⟨rfl, by decide⟩, trivial⟩) rfl fun b1 => ?_
  refine Ops.store (Has.t rfl) (Has.t rfl) (i := 0) rfl ty25 rfl rfl (Ss' := [_]) rfl (M' := [(some _, cellM [_])]) rfl ?_
  refine st (OK1.as (Has.t rfl)) rfl ?_
  refine nl ?_
  refine At.thn (hK3 _ _ ?_); clear hK3
  refine Tri.cv (Cv.wk (.cons (t := 1) (Has.t rfl) (.cons (t := 2) (Has.t rfl) (.cons (t := 6) (Has.t rfl) (.cons (t := 7) (Has.t rfl) (.cons (t := 8) (Has.t rfl) (.cons (t := 9) (Has.t rfl) .nil))))))) ?_
  refine Tri.seq fun K4 hK4 => ?_
  refine Tri.region ?_
  refine st (OK1.mv (Has.t rfl)) rfl ?_
  refine st (OK1.remKt (Has.t rfl) (Has.cK .i8 41 rfl) (by omega)) rfl ?_
  refine st (OK1.convKI un40 un3 (Has.t rfl) (by first | omega | assumption) (by first | omega | assumption)) rfl ?_
  refine st (OK1.as (Has.t rfl)) rfl ?_
  refine nl ?_
  refine At.thn (hK4 _ _ ?_); clear hK4
  refine Tri.seq fun K5 hK5 => ?_
  refine Tri.region ?_
  refine st (OK1.mv (Has.t rfl)) rfl ?_
  refine st (OK1.as (Has.t rfl)) rfl ?_
  refine nl ?_
  refine At.thn (hK5 _ _ ?_); clear hK5
  refine Tri.cv (Cv.wk (.cons (t := 1) (Has.t rfl) (.cons (t := 6) (Has.t rfl) (.cons (t := 7) (Has.t rfl) (.cons (t := 8) (Has.t rfl) (.cons (t := 9) (Has.t rfl) (.cons (t := 10) (Has.t rfl) (.cons (t := 11) (Has.t rfl) .nil)))))))) ?_
  refine Tri.seq fun K6 hK6 => ?_
  refine Tri.seq fun K7 hK7 => ?_
  refine Tri.region ?_
  refine st (OK1.mv (Has.t rfl)) rfl ?_
  refine st (OK1.ltI (Has.t rfl) (Has.cI 0 rfl)) rfl ?_
  refine nl ?_
  refine At.thn (hK7 _ _ ?_); clear hK7
  refine Tri.cond (Has.t rfl) (fun hc1 => ?_) (fun hc1 => ?_)
  · have hc1 := BP.t hc1
    refine Tri.region ?_
    refine st (OK1.load (Has.t rfl) (i := 0) rfl ty25 rfl (Ss' := [_]) rfl) rfl ?_
    refine st (OK1.mv (Has.t rfl)) rfl ?_
    refine st (OK1.call (gfp_Inv (by first | omega | assumption) (by first | omega | assumption)) (.cons (Has.t rfl) (.cons (Has.t rfl) .nil))) rfl ?_
    refine st (OK1.as (Has.t rfl)) rfl ?_
    refine nl ?_
    refine At.thn (hK6 _ _ ?_); clear hK6
    refine Tri.cv (Cv.wk (.cons (t := 1) (Has.t rfl) (.cons (t := 6) (Has.t rfl) (.cons (t := 7) (Has.t rfl) (.cons (t := 8) (Has.t rfl) (.cons (t := 9) (Has.t rfl) (.cons (t := 10) (Has.t rfl) (.cons (t := 11) (Has.t rfl) .nil)))))))) ?_
    refine Tri.seq fun K8 hK8 => ?_
    refine Tri.region ?_
    refine st (OK1.load (Has.t rfl) (i := 0) rfl ty25 rfl (Ss' := [_]) rfl) rfl ?_
    refine st (OK1.call (gfp_Norm) (.cons (Has.t rfl) (.cons (Has.cU 1 rfl) .nil))) rfl ?_
    refine st (OK1.as (Has.t rfl)) rfl ?_
    refine nl ?_
    refine At.thn (hK8 _ _ ?_); clear hK8
    refine Tri.seq fun K9 hK9 => ?_
    refine Tri.seq fun K10 hK10 => ?_
    refine Tri.region ?_
    refine st (OK1.as (Has.cI 0 rfl)) rfl ?_
    refine nl ?_
    refine At.thn (hK10 _ _ ?_); clear hK10
    refine Tri.block ?_
    refine Tri.loopF [1, 6, 7, 8, 9, 10, 11] (fun (z : { i : Nat // i ≤ (e.tmod 41).natAbs }) => match z with | ⟨i, hI⟩ => [(13, isI (i : Int)), (12, isU ((inv (fp (ptab (n % 12))) a) ^ i % fp (ptab (n % 12))))]) (fun M => fun (z : { i : Nat // i ≤ (e.tmod 41).natAbs }) => match z with | ⟨i, hI⟩ => M) (fun (z : { i : Nat // i ≤ (e.tmod 41).natAbs }) => match z with | ⟨i, hI⟩ => (e.tmod 41).natAbs - i) (⟨0, by omega⟩) (Cv.mem (.cons (t := 13) (Has.t' rfl ?_) (.cons (t := 12) (Has.t' rfl ?_) (.cons (t := 1) (Has.t rfl) (.cons (t := 6) (Has.t rfl) (.cons (t := 7) (Has.t rfl) (.cons (t := 8) (Has.t rfl) (.cons (t := 9) (Has.t rfl) (.cons (t := 10) (Has.t rfl) (.cons (t := 11) (Has.t rfl) .nil))))))))) ?_) ?_
    · rfl
    · exact isU_eq (by rw [Nat.pow_zero])
    · rfl
    rintro ⟨i, hi⟩ K11 hK11
    refine Tri.cv (Cv.wk (.cons (t := 13) (Has.t rfl) (.cons (t := 12) (Has.t rfl) (.cons (t := 1) (Has.t rfl) (.cons (t := 6) (Has.t rfl) (.cons (t := 7) (Has.t rfl) (.cons (t := 8) (Has.t rfl) (.cons (t := 9) (Has.t rfl) (.cons (t := 10) (Has.t rfl) (.cons (t := 11) (Has.t rfl) .nil)))))))))) ?_
    refine Tri.seq fun K12 hK12 => ?_
    refine Tri.seq fun K13 hK13 => ?_
    refine Tri.region ?_
    refine st (OK1.mv (Has.t rfl)) rfl ?_
    refine st (OK1.mv (Has.t rfl)) rfl ?_
    refine st (OK1.ltI (Has.t rfl) (Has.t rfl)) rfl ?_
    refine st (OK1.mv (Has.t rfl)) rfl ?_
    refine stF rfl rfl (fun hg => OK1.mv (Has.t rfl)) rfl ?_
    refine stF rfl rfl (fun hg => OK1.mv (Has.t rfl)) rfl ?_
    refine stF rfl rfl (fun hg => OK1.negI (Has.g rfl hg) (by first | omega | assumption) (by first | omega | assumption)) rfl ?_
    refine stF rfl rfl (fun hg => OK1.ltI (Has.g rfl hg) (Has.g rfl hg)) rfl ?_
    refine st (OK1.pickOr (Has.t rfl) (fun h => Has.g rfl (ng h))) rfl ?_
    refine nl ?_
    refine At.thn (hK13 _ _ ?_); clear hK13
    refine Tri.cond (Has.t rfl) (fun hc2 => ?_) (fun hc2 => ?_)
    · have hc2 := BP.t hc2
      refine Tri.skip ?_
      refine At.thn (hK12 _ _ ?_); clear hK12
      refine Tri.seq fun K14 hK14 => ?_
      refine Tri.block ?_
      refine Tri.region ?_
      refine st (OK1.load (Has.t rfl) (i := 0) rfl ty25 rfl (Ss' := [_]) rfl) rfl ?_
      refine st (OK1.mv (Has.t rfl)) rfl ?_
      refine st (OK1.mv (Has.t rfl)) rfl ?_
      refine st (OK1.call (gfp_Mul (by first | omega | assumption)) (.cons (Has.t rfl) (.cons (Has.t rfl) (.cons (Has.t rfl) .nil)))) rfl ?_
      refine st (OK1.as (Has.t rfl)) rfl ?_
      refine nl ?_
      refine At.bln ?_
      refine At.thn (hK14 _ _ ?_); clear hK14
      refine Tri.region ?_
      refine st (OK1.mv (Has.t rfl)) rfl ?_
      refine st (OK1.addI (Has.t rfl) (Has.cI 1 rfl) (by first | omega | assumption) (by first | omega | assumption)) rfl ?_
      refine st (OK1.as (Has.t rfl)) rfl ?_
      refine nl ?_
      refine At.thn ?_
      refine hK11 (⟨i + 1, by omega⟩) _ _ ?_ (Cv.mem (.cons (t := 13) (Has.t' rfl ?_) (.cons (t := 12) (Has.t' rfl ?_) (.cons (t := 1) (Has.t rfl) (.cons (t := 6) (Has.t rfl) (.cons (t := 7) (Has.t rfl) (.cons (t := 8) (Has.t rfl) (.cons (t := 9) (Has.t rfl) (.cons (t := 10) (Has.t rfl) (.cons (t := 11) (Has.t rfl) .nil))))))))) ?_)
      · show (e.tmod 41).natAbs - (i + 1) < (e.tmod 41).natAbs - i; omega
      · rfl
      · exact isU_eq (by rw [Nat.mod_mul_mod, Nat.pow_succ])
      · rfl
    · have hc2 := BP.f hc2
      refine Tri.exit ?_
      refine At.the ?_
      refine At.the ?_
      refine At.blh ?_
      refine At.thn (hK9 _ _ ?_); clear hK9
      refine Tri.cv (Cv.wk (.cons (t := 1) (Has.t rfl) (.cons (t := 6) (Has.t rfl) (.cons (t := 7) (Has.t rfl) (.cons (t := 8) (Has.t rfl) (.cons (t := 9) (Has.t rfl) (.cons (t := 10) (Has.t rfl) (.cons (t := 12) (Has.t rfl) .nil)))))))) ?_
      refine Tri.seq fun K15 hK15 => ?_
      refine Tri.dr ?_
      refine DrG.st (i := 0) [] rfl rfl rfl (by kernel_rfl) (OKG.o rfl (OK1.call (law08_awake) .nil)) ?_
      refine DrG.st (i := 1) [47] rfl rfl rfl (by kernel_rfl) (OKG.o rfl (OK1.mv (Has.t rfl))) ?_
      refine DrG.st (i := 2) [48] rfl rfl rfl (by kernel_rfl) (OKG.T rfl rfl rfl (fun hg => OK1.mv (Has.t rfl))) ?_
      refine DrG.st (i := 3) [48, 49] rfl rfl rfl (by kernel_rfl) (OKG.o rfl (OK1.pickAnd (Has.t rfl) (fun h => Has.g rfl h))) ?_
      refine DrG.st (i := 4) [50] rfl rfl rfl (by kernel_rfl) (OKG.o rfl (OK1.mv (Has.t rfl))) ?_
      refine DrG.st (i := 5) [51] rfl rfl rfl (by kernel_rfl) (OKG.T rfl rfl rfl (fun hg => OK1.load (Has.t rfl) (i := 0) rfl ty25 rfl (Ss' := [_]) rfl)) ?_
      refine DrG.st (i := 6) [51] rfl rfl rfl (by kernel_rfl) (OKG.T rfl rfl rfl (fun hg => OK1.mv (Has.t rfl))) ?_
      refine DrG.st (i := 7) [51] rfl rfl rfl (by kernel_rfl) (OKG.T rfl rfl rfl (fun hg => OK1.mv (Has.t rfl))) ?_
      refine DrG.st (i := 8) [51, 52, 53, 54] rfl rfl rfl (by kernel_rfl) (OKG.T rfl rfl rfl (fun hg => OK1.call (gfp_Pow (by first | omega | assumption) (by first | omega | assumption) (by first | omega | assumption)) (.cons (Has.g rfl hg) (.cons (Has.g rfl hg) (.cons (Has.g rfl hg) .nil))))) ?_
      refine DrG.st (i := 9) [51] rfl rfl rfl (by kernel_rfl) (OKG.T rfl rfl rfl (fun hg => OK1.mv (Has.t rfl))) ?_
      refine DrG.st (i := 10) [51, 55, 56] rfl rfl rfl (by kernel_rfl) (OKG.T rfl rfl rfl (fun hg => OK1.eqU (Has.g rfl hg) (Has.g rfl hg))) ?_
      refine DrG.st (i := 11) [51, 57] rfl rfl rfl (by kernel_rfl) (OKG.o rfl (OK1.pickAnd (Has.t rfl) (fun h => Has.g rfl h))) ?_
      refine DrG.st (i := 12) [58] rfl rfl rfl (by kernel_rfl) (OKG.o rfl (OK1.mv (Has.t rfl))) ?_
      refine DrG.st (i := 13) [59] rfl rfl rfl (by kernel_rfl) (OKG.T rfl rfl rfl (fun hg => OK1.load (Has.t rfl) (i := 0) rfl ty25 rfl (Ss' := [_]) rfl)) ?_
      refine DrG.st (i := 14) [59] rfl rfl rfl (by kernel_rfl) (OKG.T rfl rfl rfl (fun hg => OK1.mv (Has.t rfl))) ?_
      refine DrG.st (i := 15) [59] rfl rfl rfl (by kernel_rfl) (OKG.T rfl rfl rfl (fun hg => OK1.mv (Has.t rfl))) ?_
      refine DrG.st (i := 16) [59, 62] rfl rfl rfl (by kernel_rfl) (OKG.T rfl rfl rfl (fun hg => OK1.convUI un22 un3 (Has.g rfl hg) (by first | omega | assumption))) ?_
      refine DrG.st (i := 17) [59, 60, 61, 63] rfl rfl rfl (by kernel_rfl) (OKG.T rfl rfl rfl (fun hg => OK1.call (gfp_Pow (by first | omega | assumption) (by first | omega | assumption) (by first | omega | assumption)) (.cons (Has.g rfl hg) (.cons (Has.g rfl hg) (.cons (Has.g rfl hg) .nil))))) ?_
      refine DrG.st (i := 18) [59] rfl rfl rfl (by kernel_rfl) (OKG.T rfl rfl rfl (fun hg => OK1.mv (Has.t rfl))) ?_
      refine DrG.st (i := 19) [59] rfl rfl rfl (by kernel_rfl) (OKG.T rfl rfl rfl (fun hg => OK1.mv (Has.t rfl))) ?_
      refine DrG.st (i := 20) [59, 65, 66] rfl rfl rfl (by kernel_rfl) (OKG.T rfl rfl rfl (fun hg => OK1.remU (Has.g rfl hg) (Has.g rfl hg) (by first | omega | assumption) (by first | omega | assumption))) ?_
      refine DrG.st (i := 21) [59, 64, 67] rfl rfl rfl (by kernel_rfl) (OKG.T rfl rfl rfl (fun hg => OK1.eqU (Has.g rfl hg) (Has.g rfl hg))) ?_
      refine DrG.st (i := 22) [59, 68] rfl rfl rfl (by kernel_rfl) (OKG.o rfl (OK1.pickAnd (Has.t rfl) (fun h => Has.g rfl h))) ?_
      refine DrG.st (i := 23) [69] rfl rfl rfl (by kernel_rfl) (OKG.o rfl (OK1.mv (Has.t rfl))) ?_
      refine DrG.st (i := 24) [70] rfl rfl rfl (by kernel_rfl) (OKG.T rfl rfl rfl (fun hg => OK1.load (Has.t rfl) (i := 0) rfl ty25 rfl (Ss' := [_]) rfl)) ?_
      refine DrG.st (i := 25) [70] rfl rfl rfl (by kernel_rfl) (OKG.T rfl rfl rfl (fun hg => OK1.mv (Has.t rfl))) ?_
      refine DrG.st (i := 26) [70, 71, 72] rfl rfl rfl (by kernel_rfl) (OKG.T rfl rfl rfl (fun hg => OK1.call (gfp_Pow (by first | omega | assumption) (by first | omega | assumption) (by first | omega | assumption)) (.cons (Has.g rfl hg) (.cons (Has.g rfl hg) (.cons (Has.cI 0 rfl) .nil))))) ?_
      refine DrG.st (i := 27) [70] rfl rfl rfl (by kernel_rfl) (OKG.T rfl rfl rfl (fun hg => OK1.mv (Has.t rfl))) ?_
      refine DrG.st (i := 28) [70, 74] rfl rfl rfl (by kernel_rfl) (OKG.T rfl rfl rfl (fun hg => OK1.remU (Has.cU 1 rfl) (Has.g rfl hg) (by first | omega | assumption) (by first | omega | assumption))) ?_
      refine DrG.fin (n := 29) mixed (by kernel_rfl) (by kernel_rfl) (by kernel_rfl) ?_
      refine Ops.cv (Cv.wk (.cons (t := 6) (Has.t rfl) (.cons (t := 70) (Has.t rfl) (.cons (t := 73) (Has.t rfl) (.cons (t := 75) (Has.t rfl) .nil))))) ?_
      refine stT rfl rfl (fun hg => OK1.eqU (Has.g rfl hg) (Has.g rfl hg)) rfl ?_
      refine st (OK1.pickAnd (Has.t rfl) (fun h => Has.g rfl h)) rfl ?_
      refine st (OK1.as (Has.t rfl)) rfl ?_
      refine nl ?_
      refine At.thn (hK15 _ _ ?_); clear hK15
      refine Tri.cv (Cv.wk (.cons (t := 6) (Has.t rfl) .nil)) ?_
      refine Tri.ret ?_
      refine rt1 (.inl rfl) Try.results7 rfl (.tmp (Has.t' rfl ?_) .nil)
      all_goals (exact isB_eq (law_powers ptab_prime hfp (if_pos hc1).symm (by omega)))
  · have hc1 := BP.f hc1
    refine Tri.skip ?_
    refine At.thn (hK6 _ _ ?_); clear hK6
    refine Tri.seq fun K16 hK16 => ?_
    refine Tri.region ?_
    refine st (OK1.load (Has.t rfl) (i := 0) rfl ty25 rfl (Ss' := [_]) rfl) rfl ?_
    refine st (OK1.call (gfp_Norm) (.cons (Has.t rfl) (.cons (Has.cU 1 rfl) .nil))) rfl ?_
    refine st (OK1.as (Has.t rfl)) rfl ?_
    refine nl ?_
    refine At.thn (hK16 _ _ ?_); clear hK16
    refine Tri.seq fun K17 hK17 => ?_
    refine Tri.seq fun K18 hK18 => ?_
    refine Tri.region ?_
    refine st (OK1.as (Has.cI 0 rfl)) rfl ?_
    refine nl ?_
    refine At.thn (hK18 _ _ ?_); clear hK18
    refine Tri.block ?_
    refine Tri.loopF [1, 6, 7, 8, 9, 10, 11] (fun (z : { i : Nat // i ≤ (e.tmod 41).natAbs }) => match z with | ⟨i, hI⟩ => [(13, isI (i : Int)), (12, isU ((a) ^ i % fp (ptab (n % 12))))]) (fun M => fun (z : { i : Nat // i ≤ (e.tmod 41).natAbs }) => match z with | ⟨i, hI⟩ => M) (fun (z : { i : Nat // i ≤ (e.tmod 41).natAbs }) => match z with | ⟨i, hI⟩ => (e.tmod 41).natAbs - i) (⟨0, by omega⟩) (Cv.mem (.cons (t := 13) (Has.t' rfl ?_) (.cons (t := 12) (Has.t' rfl ?_) (.cons (t := 1) (Has.t rfl) (.cons (t := 6) (Has.t rfl) (.cons (t := 7) (Has.t rfl) (.cons (t := 8) (Has.t rfl) (.cons (t := 9) (Has.t rfl) (.cons (t := 10) (Has.t rfl) (.cons (t := 11) (Has.t rfl) .nil))))))))) ?_) ?_
    · rfl
    · exact isU_eq (by rw [Nat.pow_zero])
    · rfl
    rintro ⟨i, hi⟩ K19 hK19
    refine Tri.cv (Cv.wk (.cons (t := 13) (Has.t rfl) (.cons (t := 12) (Has.t rfl) (.cons (t := 1) (Has.t rfl) (.cons (t := 6) (Has.t rfl) (.cons (t := 7) (Has.t rfl) (.cons (t := 8) (Has.t rfl) (.cons (t := 9) (Has.t rfl) (.cons (t := 10) (Has.t rfl) (.cons (t := 11) (Has.t rfl) .nil)))))))))) ?_
    refine Tri.seq fun K20 hK20 => ?_
    refine Tri.seq fun K21 hK21 => ?_
    refine Tri.region ?_
    refine st (OK1.mv (Has.t rfl)) rfl ?_
    refine st (OK1.mv (Has.t rfl)) rfl ?_
    refine st (OK1.ltI (Has.t rfl) (Has.t rfl)) rfl ?_
    refine st (OK1.mv (Has.t rfl)) rfl ?_
    refine stF rfl rfl (fun hg => OK1.mv (Has.t rfl)) rfl ?_
    refine stF rfl rfl (fun hg => OK1.mv (Has.t rfl)) rfl ?_
    refine stF rfl rfl (fun hg => OK1.negI (Has.g rfl hg) (by first | omega | assumption) (by first | omega | assumption)) rfl ?_
    refine stF rfl rfl (fun hg => OK1.ltI (Has.g rfl hg) (Has.g rfl hg)) rfl ?_
    refine st (OK1.pickOr (Has.t rfl) (fun h => Has.g rfl (ng h))) rfl ?_
    refine nl ?_
    refine At.thn (hK21 _ _ ?_); clear hK21
    refine Tri.cond (Has.t rfl) (fun hc3 => ?_) (fun hc3 => ?_)
    · have hc3 := BP.t hc3
      refine Tri.skip ?_
      refine At.thn (hK20 _ _ ?_); clear hK20
      refine Tri.seq fun K22 hK22 => ?_
      refine Tri.block ?_
      refine Tri.region ?_
      refine st (OK1.load (Has.t rfl) (i := 0) rfl ty25 rfl (Ss' := [_]) rfl) rfl ?_
      refine st (OK1.mv (Has.t rfl)) rfl ?_
      refine st (OK1.mv (Has.t rfl)) rfl ?_
      refine st (OK1.call (gfp_Mul (by first | omega | assumption)) (.cons (Has.t rfl) (.cons (Has.t rfl) (.cons (Has.t rfl) .nil)))) rfl ?_
      refine st (OK1.as (Has.t rfl)) rfl ?_
      refine nl ?_
      refine At.bln ?_
      refine At.thn (hK22 _ _ ?_); clear hK22
      refine Tri.region ?_
      refine st (OK1.mv (Has.t rfl)) rfl ?_
      refine st (OK1.addI (Has.t rfl) (Has.cI 1 rfl) (by first | omega | assumption) (by first | omega | assumption)) rfl ?_
      refine st (OK1.as (Has.t rfl)) rfl ?_
      refine nl ?_
      refine At.thn ?_
      refine hK19 (⟨i + 1, by omega⟩) _ _ ?_ (Cv.mem (.cons (t := 13) (Has.t' rfl ?_) (.cons (t := 12) (Has.t' rfl ?_) (.cons (t := 1) (Has.t rfl) (.cons (t := 6) (Has.t rfl) (.cons (t := 7) (Has.t rfl) (.cons (t := 8) (Has.t rfl) (.cons (t := 9) (Has.t rfl) (.cons (t := 10) (Has.t rfl) (.cons (t := 11) (Has.t rfl) .nil))))))))) ?_)
      · show (e.tmod 41).natAbs - (i + 1) < (e.tmod 41).natAbs - i; omega
      · rfl
      · exact isU_eq (by rw [Nat.mod_mul_mod, Nat.pow_succ])
      · rfl
    · have hc3 := BP.f hc3
      refine Tri.exit ?_
      refine At.the ?_
      refine At.the ?_
      refine At.blh ?_
      refine At.thn (hK17 _ _ ?_); clear hK17
      refine Tri.cv (Cv.wk (.cons (t := 1) (Has.t rfl) (.cons (t := 6) (Has.t rfl) (.cons (t := 7) (Has.t rfl) (.cons (t := 8) (Has.t rfl) (.cons (t := 9) (Has.t rfl) (.cons (t := 10) (Has.t rfl) (.cons (t := 12) (Has.t rfl) .nil)))))))) ?_
      refine Tri.seq fun K23 hK23 => ?_
      refine Tri.dr ?_
      refine DrG.st (i := 0) [] rfl rfl rfl (by kernel_rfl) (OKG.o rfl (OK1.call (law08_awake) .nil)) ?_
      refine DrG.st (i := 1) [47] rfl rfl rfl (by kernel_rfl) (OKG.o rfl (OK1.mv (Has.t rfl))) ?_
      refine DrG.st (i := 2) [48] rfl rfl rfl (by kernel_rfl) (OKG.T rfl rfl rfl (fun hg => OK1.mv (Has.t rfl))) ?_
      refine DrG.st (i := 3) [48, 49] rfl rfl rfl (by kernel_rfl) (OKG.o rfl (OK1.pickAnd (Has.t rfl) (fun h => Has.g rfl h))) ?_
      refine DrG.st (i := 4) [50] rfl rfl rfl (by kernel_rfl) (OKG.o rfl (OK1.mv (Has.t rfl))) ?_
      refine DrG.st (i := 5) [51] rfl rfl rfl (by kernel_rfl) (OKG.T rfl rfl rfl (fun hg => OK1.load (Has.t rfl) (i := 0) rfl ty25 rfl (Ss' := [_]) rfl)) ?_
      refine DrG.st (i := 6) [51] rfl rfl rfl (by kernel_rfl) (OKG.T rfl rfl rfl (fun hg => OK1.mv (Has.t rfl))) ?_
      refine DrG.st (i := 7) [51] rfl rfl rfl (by kernel_rfl) (OKG.T rfl rfl rfl (fun hg => OK1.mv (Has.t rfl))) ?_
      refine DrG.st (i := 8) [51, 52, 53, 54] rfl rfl rfl (by kernel_rfl) (OKG.T rfl rfl rfl (fun hg => OK1.call (gfp_Pow (by first | omega | assumption) (by first | omega | assumption) (by first | omega | assumption)) (.cons (Has.g rfl hg) (.cons (Has.g rfl hg) (.cons (Has.g rfl hg) .nil))))) ?_
      refine DrG.st (i := 9) [51] rfl rfl rfl (by kernel_rfl) (OKG.T rfl rfl rfl (fun hg => OK1.mv (Has.t rfl))) ?_
      refine DrG.st (i := 10) [51, 55, 56] rfl rfl rfl (by kernel_rfl) (OKG.T rfl rfl rfl (fun hg => OK1.eqU (Has.g rfl hg) (Has.g rfl hg))) ?_
      refine DrG.st (i := 11) [51, 57] rfl rfl rfl (by kernel_rfl) (OKG.o rfl (OK1.pickAnd (Has.t rfl) (fun h => Has.g rfl h))) ?_
      refine DrG.st (i := 12) [58] rfl rfl rfl (by kernel_rfl) (OKG.o rfl (OK1.mv (Has.t rfl))) ?_
      refine DrG.st (i := 13) [59] rfl rfl rfl (by kernel_rfl) (OKG.T rfl rfl rfl (fun hg => OK1.load (Has.t rfl) (i := 0) rfl ty25 rfl (Ss' := [_]) rfl)) ?_
      refine DrG.st (i := 14) [59] rfl rfl rfl (by kernel_rfl) (OKG.T rfl rfl rfl (fun hg => OK1.mv (Has.t rfl))) ?_
      refine DrG.st (i := 15) [59] rfl rfl rfl (by kernel_rfl) (OKG.T rfl rfl rfl (fun hg => OK1.mv (Has.t rfl))) ?_
      refine DrG.st (i := 16) [59, 62] rfl rfl rfl (by kernel_rfl) (OKG.T rfl rfl rfl (fun hg => OK1.convUI un22 un3 (Has.g rfl hg) (by first | omega | assumption))) ?_
      refine DrG.st (i := 17) [59, 60, 61, 63] rfl rfl rfl (by kernel_rfl) (OKG.T rfl rfl rfl (fun hg => OK1.call (gfp_Pow (by first | omega | assumption) (by first | omega | assumption) (by first | omega | assumption)) (.cons (Has.g rfl hg) (.cons (Has.g rfl hg) (.cons (Has.g rfl hg) .nil))))) ?_
      refine DrG.st (i := 18) [59] rfl rfl rfl (by kernel_rfl) (OKG.T rfl rfl rfl (fun hg => OK1.mv (Has.t rfl))) ?_
      refine DrG.st (i := 19) [59] rfl rfl rfl (by kernel_rfl) (OKG.T rfl rfl rfl (fun hg => OK1.mv (Has.t rfl))) ?_
      refine DrG.st (i := 20) [59, 65, 66] rfl rfl rfl (by kernel_rfl) (OKG.T rfl rfl rfl (fun hg => OK1.remU (Has.g rfl hg) (Has.g rfl hg) (by first | omega | assumption) (by first | omega | assumption))) ?_
      refine DrG.st (i := 21) [59, 64, 67] rfl rfl rfl (by kernel_rfl) (OKG.T rfl rfl rfl (fun hg => OK1.eqU (Has.g rfl hg) (Has.g rfl hg))) ?_
      refine DrG.st (i := 22) [59, 68] rfl rfl rfl (by kernel_rfl) (OKG.o rfl (OK1.pickAnd (Has.t rfl) (fun h => Has.g rfl h))) ?_
      refine DrG.st (i := 23) [69] rfl rfl rfl (by kernel_rfl) (OKG.o rfl (OK1.mv (Has.t rfl))) ?_
      refine DrG.st (i := 24) [70] rfl rfl rfl (by kernel_rfl) (OKG.T rfl rfl rfl (fun hg => OK1.load (Has.t rfl) (i := 0) rfl ty25 rfl (Ss' := [_]) rfl)) ?_
      refine DrG.st (i := 25) [70] rfl rfl rfl (by kernel_rfl) (OKG.T rfl rfl rfl (fun hg => OK1.mv (Has.t rfl))) ?_
      refine DrG.st (i := 26) [70, 71, 72] rfl rfl rfl (by kernel_rfl) (OKG.T rfl rfl rfl (fun hg => OK1.call (gfp_Pow (by first | omega | assumption) (by first | omega | assumption) (by first | omega | assumption)) (.cons (Has.g rfl hg) (.cons (Has.g rfl hg) (.cons (Has.cI 0 rfl) .nil))))) ?_
      refine DrG.st (i := 27) [70] rfl rfl rfl (by kernel_rfl) (OKG.T rfl rfl rfl (fun hg => OK1.mv (Has.t rfl))) ?_
      refine DrG.st (i := 28) [70, 74] rfl rfl rfl (by kernel_rfl) (OKG.T rfl rfl rfl (fun hg => OK1.remU (Has.cU 1 rfl) (Has.g rfl hg) (by first | omega | assumption) (by first | omega | assumption))) ?_
      refine DrG.fin (n := 29) mixed (by kernel_rfl) (by kernel_rfl) (by kernel_rfl) ?_
      refine Ops.cv (Cv.wk (.cons (t := 6) (Has.t rfl) (.cons (t := 70) (Has.t rfl) (.cons (t := 73) (Has.t rfl) (.cons (t := 75) (Has.t rfl) .nil))))) ?_
      refine stT rfl rfl (fun hg => OK1.eqU (Has.g rfl hg) (Has.g rfl hg)) rfl ?_
      refine st (OK1.pickAnd (Has.t rfl) (fun h => Has.g rfl h)) rfl ?_
      refine st (OK1.as (Has.t rfl)) rfl ?_
      refine nl ?_
      refine At.thn (hK23 _ _ ?_); clear hK23
      refine Tri.cv (Cv.wk (.cons (t := 6) (Has.t rfl) .nil)) ?_
      refine Tri.ret ?_
      refine rt1 (.inl rfl) Try.results7 rfl (.tmp (Has.t' rfl ?_) .nil)
      all_goals (exact isB_eq (law_powers ptab_prime hfp (if_neg (by omega)).symm (by omega)))

theorem opens_GfpPowers : Opens Try.prog Try.f7 7 := by
  intro H enc W base args ds ps hval hA hlt
  rw [Try.params7] at hA hval
  obtain ⟨v0, vs0, d0, ds0, p0, q0, hargs, rfl, rfl, h0, r0⟩ := trodAll_cons hA
  obtain ⟨v1, vs1, d1, ds1, p1, q1, rfl, rfl, rfl, h1, r1⟩ := trodAll_cons r0
  obtain ⟨v2, vs2, d2, ds2, p2, q2, rfl, rfl, rfl, h2, r2⟩ := trodAll_cons r1
  obtain ⟨rfl, rfl, rfl⟩ := trodAll_nil r2
  obtain rfl : args = #[v0, v1, v2] := by cases args; simp_all
  obtain ⟨x0, o0⟩ := open_N un5 rfl (hval 0 5 v0 rfl rfl) h0
  obtain ⟨x1, o1⟩ := open_U un22 (hval 1 22 v1 rfl rfl) h1
  obtain ⟨x2, o2⟩ := open_Kz un40 (hval 2 40 v2 rfl rfl) h2
  refine ⟨_, ?_, c_GfpPowers x0 x1 x2⟩
  exact ⟨o0 _, o1 _, o2 _, trivial⟩
theorem gfpPowers_said : Rows.GfpPowersSaid :=
  OpenClaim.holds_of_wide 7 Try.f7 rfl rfl rfl rfl rfl rfl rfl ⟨rfl, rfl, rfl, rfl, rfl⟩ rfl rfl rfl rfl rfl (by kernel_rfl) Try.func7 (by kernel_rfl)
    (of_decide_eq_true (by kernel_rfl)) (by unfold Func.isWrapper; first | (rw [if_pos (by decide +kernel)]; kernel_rfl) | (rw [if_neg (by decide +kernel)]; exact ⟨rfl, rfl⟩))
    (fun os started H enc _ => lift_law (C := Try.checked) (s := Rows.gfpPowersSpec) (by kernel_rfl) started (by kernel_rfl) Try.func7
      (ChangeSpec.witness6 (enc := enc) (C := Try.checked) false ⟨#[], #[.int .u8 0, .int .u64 0, .int .i8 0], []⟩ 8 (by kernel_rfl) (by kernel_rfl) (by kernel_rfl) (by kernel_rfl))
      (by kernel_rfl) (by kernel_rfl) rfl rfl un4 (fun ds h => by match ds, h with | [d0, d1, d2], _ => rfl) opens_GfpPowers)
#print axioms gfpPowers_said
end Go.Proofs.Ytoegabldmcbgpaa
