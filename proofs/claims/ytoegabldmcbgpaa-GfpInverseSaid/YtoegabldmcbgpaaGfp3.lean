/- The laws of layer 8 over words. -/
import Derived.Test.YtoegabldmcbgpaaGfp2
import Derived.Test.YtoegabldmcbgpaaRows
namespace Go.Proofs.Ytoegabldmcbgpaa
open Go.En Go.RowKit
set_option linter.unusedVariables false
set_option maxRecDepth 10000
open Go.Gf
open Go.ChangeShapes Go.WideShapes Go.ChangeAt
theorem c_GfpInverse (n a : Nat) : Ctr Try.prog 3 [isK .u8 (n : Int), isU a] (isB true) := by
  refine Ctr.intro Try.func3 rfl (by kernel_rfl) Try.ntmps3 rfl fun w0 F0 => ?_
  refine Tri.cv (Cv.wk (.cons (t := 0) (Has.t rfl) (.cons (t := 1) (Has.t rfl) .nil))) ?_
  refine Tri.fact (Has.ltU (Has.t (t := 1) rfl)) fun lt1 => ?_
  have hpl := ptab_le (k := n % 12)
  have hp2 := ptab_two (n % 12)
  have hfp := ptab_fp (n % 12)
  refine Tri.seq fun K1 hK1 => ?_
  refine Tri.region ?_
  refine st (OK1.as (Has.cB false)) rfl ?_
  refine nl ?_
  refine At.thn (hK1 _ _ ?_); clear hK1
  refine Tri.seq fun K2 hK2 => ?_
  refine Tri.region ?_
  refine st (OK1.mv (Has.t rfl)) rfl ?_
  refine st (OK1.call ref08_P (.cons (Has.t rfl) .nil)) rfl ?_
  refine st (OK1.as (Has.t rfl)) rfl ?_
  refine nl ?_
  refine At.thn (hK2 _ _ ?_); clear hK2
  refine Tri.seq fun K3 hK3 => ?_
  refine Tri.region ?_
  refine st (OK1.mv (Has.t rfl)) rfl ?_
  refine st (OK1.call (gfp_New_yes (ptab_pr _)) (.cons (Has.t rfl) .nil)) rfl ?_
  refine st (OK1.mv (Has.t rfl)) rfl ?_
  refine st (OK1.ext (Has.t rfl) rfl) rfl ?_
  refine st (OK1.ext (Has.t rfl) rfl) rfl ?_
  refine Ops.alloc [isU 0] zero25 (fun _ _ => ⟨⟨rfl, by decide⟩, trivial⟩) rfl fun b1 => ?_
  refine Ops.store (Has.t rfl) (Has.t rfl) (i := 0) rfl ty25 rfl rfl (Ss' := [_]) rfl (M' := [(some _, cellM [_])]) rfl ?_
  refine st (OK1.as (Has.t rfl)) rfl ?_
  refine nl ?_
  refine At.thn (hK3 _ _ ?_); clear hK3
  refine Tri.cv (Cv.wk (.cons (t := 1) (Has.t rfl) (.cons (t := 4) (Has.t rfl) (.cons (t := 5) (Has.t rfl) (.cons (t := 6) (Has.t rfl) (.cons (t := 7) (Has.t rfl) .nil)))))) ?_
  refine Tri.seq fun K4 hK4 => ?_
  refine Tri.region ?_
  refine st (OK1.load (Has.t rfl) (i := 0) rfl ty25 rfl (Ss' := [_]) rfl) rfl ?_
  refine st (OK1.mv (Has.t rfl)) rfl ?_
  refine st (OK1.call (gfp_Inv (by first | omega | assumption) (by first | omega | assumption)) (.cons (Has.t rfl) (.cons (Has.t rfl) .nil))) rfl ?_
  refine st (OK1.as (Has.t rfl)) rfl ?_
  refine nl ?_
  refine At.thn (hK4 _ _ ?_); clear hK4
  refine Tri.seq fun K5 hK5 => ?_
  refine Tri.seq fun K6 hK6 => ?_
  refine Tri.region ?_
  refine st (OK1.call (law08_awake) .nil) rfl ?_
  refine st (OK1.not (Has.t rfl)) rfl ?_
  refine st (OK1.mv (Has.t rfl)) rfl ?_
  refine stF rfl rfl (fun hg => OK1.mv (Has.t rfl)) rfl ?_
  refine stF rfl rfl (fun hg => OK1.not (Has.g rfl hg)) rfl ?_
  refine st (OK1.pickOr (Has.t rfl) (fun h => Has.g rfl (ng h))) rfl ?_
  refine st (OK1.mv (Has.t rfl)) rfl ?_
  refine stF rfl rfl (fun hg => OK1.mv (Has.t rfl)) rfl ?_
  refine stF rfl rfl (fun hg => OK1.mv (Has.t rfl)) rfl ?_
  refine stF rfl rfl (fun hg => OK1.geU (Has.g rfl hg) (Has.g rfl hg)) rfl ?_
  refine st (OK1.pickOr (Has.t rfl) (fun h => Has.g rfl (ng h))) rfl ?_
  refine nl ?_
  refine At.thn (hK6 _ _ ?_); clear hK6
  refine Tri.cv (Cv.wk (.cons (t := 1) (Has.t rfl) (.cons (t := 4) (Has.t rfl) (.cons (t := 5) (Has.t rfl) (.cons (t := 6) (Has.t rfl) (.cons (t := 8) (Has.t rfl) (.cons (t := 29) (Has.t rfl) .nil))))))) ?_
  refine Tri.cond (Has.t rfl) (fun hc1 => ?_) (fun hc1 => ?_)
  · have hc1 := BP.t hc1
    exact absurd hc1 (by rw [hfp]; have := inv_lt (p := ptab (n % 12)) (a := a) (by omega); simp; omega)
  · have hc1 := BP.f hc1
    refine Tri.skip ?_
    refine At.thn (hK5 _ _ ?_); clear hK5
    refine Tri.seq fun K7 hK7 => ?_
    refine Tri.dr ?_
    refine DrG.st (i := 0) [] rfl rfl rfl (by kernel_rfl) (OKG.o rfl (OK1.mv (Has.t rfl))) ?_
    refine DrG.st (i := 1) [] rfl rfl rfl (by kernel_rfl) (OKG.o rfl (OK1.mv (Has.t rfl))) ?_
    refine DrG.st (i := 2) [30, 31] rfl rfl rfl (by kernel_rfl) (OKG.o rfl (OK1.remU (Has.t rfl) (Has.t rfl) (by first | omega | assumption) (by first | omega | assumption))) ?_
    refine DrG.st (i := 3) [32] rfl rfl rfl (by kernel_rfl) (OKG.o rfl (OK1.eqU (Has.t rfl) (Has.cU 0 rfl))) ?_
    refine DrG.st (i := 4) [33] rfl rfl rfl (by kernel_rfl) (OKG.o rfl (OK1.mv (Has.t rfl))) ?_
    refine DrG.st (i := 5) [34] rfl rfl rfl (by kernel_rfl) (OKG.T rfl rfl rfl (fun hg => OK1.mv (Has.t rfl))) ?_
    refine DrG.st (i := 6) [34, 35] rfl rfl rfl (by kernel_rfl) (OKG.T rfl rfl rfl (fun hg => OK1.eqU (Has.g rfl hg) (Has.cU 0 rfl))) ?_
    refine DrG.st (i := 7) [34, 36] rfl rfl rfl (by kernel_rfl) (OKG.o rfl (OK1.pickAnd (Has.t rfl) (fun h => Has.g rfl h))) ?_
    refine DrG.st (i := 8) [37] rfl rfl rfl (by kernel_rfl) (OKG.o rfl (OK1.mv (Has.t rfl))) ?_
    refine DrG.st (i := 9) [38] rfl rfl rfl (by kernel_rfl) (OKG.F rfl rfl rfl (fun hg => OK1.mv (Has.t rfl))) ?_
    refine DrG.st (i := 10) [38] rfl rfl rfl (by kernel_rfl) (OKG.F rfl rfl rfl (fun hg => OK1.mv (Has.t rfl))) ?_
    refine DrG.st (i := 11) [38, 39, 40] rfl rfl rfl (by kernel_rfl) (OKG.F rfl rfl rfl (fun hg => OK1.remU (Has.g rfl hg) (Has.g rfl hg) (by first | omega | assumption) (by first | omega | assumption))) ?_
    refine DrG.st (i := 12) [38, 41] rfl rfl rfl (by kernel_rfl) (OKG.F rfl rfl rfl (fun hg => OK1.neU (Has.g rfl hg) (Has.cU 0 rfl))) ?_
    refine DrG.st (i := 13) [38, 42] rfl rfl rfl (by kernel_rfl) (OKG.F rfl rfl rfl (fun hg => OK1.mv (Has.g rfl hg))) ?_
    refine DrG.st (i := 14) [43] rfl rfl rfl (by kernel_rfl) (OKG.GT rfl rfl rfl (fun hg => OK1.load (Has.t rfl) (i := 0) rfl ty25 rfl (Ss' := [_]) rfl)) ?_
    refine DrG.st (i := 15) [43] rfl rfl rfl (by kernel_rfl) (OKG.GT rfl rfl rfl (fun hg => OK1.mv (Has.t rfl))) ?_
    refine DrG.st (i := 16) [43] rfl rfl rfl (by kernel_rfl) (OKG.GT rfl rfl rfl (fun hg => OK1.mv (Has.t rfl))) ?_
    refine DrG.st (i := 17) [43, 44, 45, 46] rfl rfl rfl (by kernel_rfl) (OKG.GT rfl rfl rfl (fun hg => OK1.call (gfp_Mul (by first | omega | assumption)) (.cons (Has.g rfl hg) (.cons (Has.g rfl hg) (.cons (Has.g rfl hg) .nil))))) ?_
    refine DrG.st (i := 18) [43] rfl rfl rfl (by kernel_rfl) (OKG.GT rfl rfl rfl (fun hg => OK1.mv (Has.t rfl))) ?_
    refine DrG.st (i := 19) [43, 48] rfl rfl rfl (by kernel_rfl) (OKG.GT rfl rfl rfl (fun hg => OK1.remU (Has.cU 1 rfl) (Has.g rfl hg) (by first | omega | assumption) (by first | omega | assumption))) ?_
    refine DrG.fin (n := 20) mixed (by kernel_rfl) (by kernel_rfl) (by kernel_rfl) ?_
    refine Ops.cv (Cv.wk (.cons (t := 4) (Has.t rfl) (.cons (t := 38) (Has.t rfl) (.cons (t := 43) (Has.t rfl) (.cons (t := 47) (Has.t rfl) (.cons (t := 49) (Has.t rfl) .nil)))))) ?_
    refine stGT rfl rfl (fun hg => OK1.eqU (Has.g rfl hg) (Has.g rfl hg)) rfl ?_
    refine stF rfl rfl (fun hg => OK1.pickAnd (Has.g rfl hg) (fun h => Has.g rfl (ga hg h))) rfl ?_
    refine st (OK1.pickOr (Has.t rfl) (fun h => Has.g rfl (ng h))) rfl ?_
    refine st (OK1.as (Has.t rfl)) rfl ?_
    refine nl ?_
    refine At.thn (hK7 _ _ ?_); clear hK7
    refine Tri.cv (Cv.wk (.cons (t := 4) (Has.t rfl) .nil)) ?_
    refine Tri.ret ?_
    refine rt1 (.inl rfl) Try.results3 rfl (.tmp (Has.t' rfl ?_) .nil)
    all_goals (exact isB_eq (law_inverse a ptab_prime hfp))

theorem opens_GfpInverse : Opens Try.prog Try.f3 3 := by
  intro H enc W base args ds ps hval hA hlt
  rw [Try.params3] at hA hval
  obtain ⟨v0, vs0, d0, ds0, p0, q0, hargs, rfl, rfl, h0, r0⟩ := trodAll_cons hA
  obtain ⟨v1, vs1, d1, ds1, p1, q1, rfl, rfl, rfl, h1, r1⟩ := trodAll_cons r0
  obtain ⟨rfl, rfl, rfl⟩ := trodAll_nil r1
  obtain rfl : args = #[v0, v1] := by cases args; simp_all
  obtain ⟨x0, o0⟩ := open_N un5 rfl (hval 0 5 v0 rfl rfl) h0
  obtain ⟨x1, o1⟩ := open_U un22 (hval 1 22 v1 rfl rfl) h1
  refine ⟨_, ?_, c_GfpInverse x0 x1⟩
  exact ⟨o0 _, o1 _, trivial⟩
theorem gfpInverse_said : Rows.GfpInverseSaid :=
  OpenClaim.holds_of_wide 3 Try.f3 rfl rfl rfl rfl rfl rfl rfl ⟨rfl, rfl, rfl, rfl, rfl⟩ rfl rfl rfl rfl rfl (by kernel_rfl) Try.func3 (by kernel_rfl)
    (of_decide_eq_true (by kernel_rfl)) (by unfold Func.isWrapper; first | (rw [if_pos (by decide +kernel)]; kernel_rfl) | (rw [if_neg (by decide +kernel)]; exact ⟨rfl, rfl⟩))
    (fun os started H enc _ => lift_law (C := Try.checked) (s := Rows.gfpInverseSpec) (by kernel_rfl) started (by kernel_rfl) Try.func3
      (ChangeSpec.witness6 (enc := enc) (C := Try.checked) false ⟨#[], #[.int .u8 0, .int .u64 0], []⟩ 8 (by kernel_rfl) (by kernel_rfl) (by kernel_rfl) (by kernel_rfl))
      (by kernel_rfl) (by kernel_rfl) rfl rfl un4 (fun ds h => by match ds, h with | [d0, d1], _ => rfl) opens_GfpInverse)
#print axioms gfpInverse_said

theorem c_GfpReckons (n a b : Nat) : Ctr Try.prog 6 [isK .u8 (n : Int), isU a, isU b] (isB true) := by
  refine Ctr.intro Try.func6 rfl (by kernel_rfl) Try.ntmps6 rfl fun w0 F0 => ?_
  refine Tri.cv (Cv.wk (.cons (t := 0) (Has.t rfl) (.cons (t := 1) (Has.t rfl) (.cons (t := 2) (Has.t rfl) .nil)))) ?_
  refine Tri.fact (Has.ltU (Has.t (t := 1) rfl)) fun lt1 => ?_
  refine Tri.fact (Has.ltU (Has.t (t := 2) rfl)) fun lt2 => ?_
  have hpl := ptab_le (k := n % 12)
  have hp2 := ptab_two (n % 12)
  have hfp := ptab_fp (n % 12)
  have ha := Nat.mod_lt a (by omega : 0 < ptab (n % 12))
  have hb := Nat.mod_lt b (by omega : 0 < ptab (n % 12))
  refine Tri.seq fun K1 hK1 => ?_
  refine Tri.region ?_
  refine st (OK1.as (Has.cB false)) rfl ?_
  refine nl ?_
  refine At.thn (hK1 _ _ ?_); clear hK1
  refine Tri.seq fun K2 hK2 => ?_
  refine Tri.region ?_
  refine st (OK1.mv (Has.t rfl)) rfl ?_
  refine st (OK1.call ref08_P (.cons (Has.t rfl) .nil)) rfl ?_
  refine st (OK1.as (Has.t rfl)) rfl ?_
  refine nl ?_
  refine At.thn (hK2 _ _ ?_); clear hK2
  refine Tri.seq fun K3 hK3 => ?_
  refine Tri.region ?_
  refine st (OK1.mv (Has.t rfl)) rfl ?_
  refine st (OK1.call (gfp_New_yes (ptab_pr _)) (.cons (Has.t rfl) .nil)) rfl ?_
  refine st (OK1.mv (Has.t rfl)) rfl ?_
  refine st (OK1.ext (Has.t rfl) rfl) rfl ?_
  refine st (OK1.ext (Has.t rfl) rfl) rfl ?_
  refine Ops.alloc [isU 0] zero25 (fun _ _ => ⟨⟨rfl, by decide⟩, trivial⟩) rfl fun b1 => ?_
  refine Ops.store (Has.t rfl) (Has.t rfl) (i := 0) rfl ty25 rfl rfl (Ss' := [_]) rfl (M' := [(some _, cellM [_])]) rfl ?_
  refine st (OK1.as (Has.t rfl)) rfl ?_
  refine nl ?_
  refine At.thn (hK3 _ _ ?_); clear hK3
  refine Tri.cv (Cv.wk (.cons (t := 1) (Has.t rfl) (.cons (t := 2) (Has.t rfl) (.cons (t := 6) (Has.t rfl) (.cons (t := 7) (Has.t rfl) (.cons (t := 8) (Has.t rfl) (.cons (t := 9) (Has.t rfl) .nil))))))) ?_
  refine Tri.seq fun K4 hK4 => ?_
  refine Tri.dr ?_
  refine DrG.st (i := 0) [] rfl rfl rfl (by kernel_rfl) (OKG.o rfl (OK1.mv (Has.t rfl))) ?_
  refine DrG.st (i := 1) [] rfl rfl rfl (by kernel_rfl) (OKG.o rfl (OK1.mv (Has.t rfl))) ?_
  refine DrG.st (i := 2) [19, 20] rfl rfl rfl (by kernel_rfl) (OKG.o rfl (OK1.remU (Has.t rfl) (Has.t rfl) (by first | omega | assumption) (by first | omega | assumption))) ?_
  refine DrG.st (i := 3) [] rfl rfl rfl (by kernel_rfl) (OKG.o rfl (OK1.mv (Has.t rfl))) ?_
  refine DrG.st (i := 4) [] rfl rfl rfl (by kernel_rfl) (OKG.o rfl (OK1.mv (Has.t rfl))) ?_
  refine DrG.st (i := 5) [22, 23] rfl rfl rfl (by kernel_rfl) (OKG.o rfl (OK1.remU (Has.t rfl) (Has.t rfl) (by first | omega | assumption) (by first | omega | assumption))) ?_
  refine DrG.st (i := 6) [21] rfl rfl rfl (by kernel_rfl) (OKG.o rfl (OK1.as (Has.t rfl))) ?_
  refine DrG.fin (n := 7) mixed (by kernel_rfl) (by kernel_rfl) (by kernel_rfl) ?_
  refine Ops.cv (Cv.wk (.cons (t := 1) (Has.t rfl) (.cons (t := 2) (Has.t rfl) (.cons (t := 6) (Has.t rfl) (.cons (t := 7) (Has.t rfl) (.cons (t := 8) (Has.t rfl) (.cons (t := 9) (Has.t rfl) (.cons (t := 24) (Has.t rfl) (.cons (t := 10) (Has.t rfl) .nil))))))))) ?_
  refine st (OK1.as (Has.t rfl)) rfl ?_
  refine nl ?_
  refine At.thn (hK4 _ _ ?_); clear hK4
  refine Tri.seq fun K5 hK5 => ?_
  refine Tri.dr ?_
  refine DrG.st (i := 0) [] rfl rfl rfl (by kernel_rfl) (OKG.o rfl (OK1.call (law08_awake) .nil)) ?_
  refine DrG.st (i := 1) [25] rfl rfl rfl (by kernel_rfl) (OKG.o rfl (OK1.mv (Has.t rfl))) ?_
  refine DrG.st (i := 2) [26] rfl rfl rfl (by kernel_rfl) (OKG.T rfl rfl rfl (fun hg => OK1.mv (Has.t rfl))) ?_
  refine DrG.st (i := 3) [26, 27] rfl rfl rfl (by kernel_rfl) (OKG.o rfl (OK1.pickAnd (Has.t rfl) (fun h => Has.g rfl h))) ?_
  refine DrG.st (i := 4) [28] rfl rfl rfl (by kernel_rfl) (OKG.o rfl (OK1.mv (Has.t rfl))) ?_
  refine DrG.st (i := 5) [29] rfl rfl rfl (by kernel_rfl) (OKG.T rfl rfl rfl (fun hg => OK1.load (Has.t rfl) (i := 0) rfl ty25 rfl (Ss' := [_]) rfl)) ?_
  refine DrG.st (i := 6) [29, 30] rfl rfl rfl (by kernel_rfl) (OKG.T rfl rfl rfl (fun hg => OK1.call (gfp_P) (.cons (Has.g rfl hg) .nil))) ?_
  refine DrG.st (i := 7) [29] rfl rfl rfl (by kernel_rfl) (OKG.T rfl rfl rfl (fun hg => OK1.mv (Has.t rfl))) ?_
  refine DrG.st (i := 8) [29, 31, 32] rfl rfl rfl (by kernel_rfl) (OKG.T rfl rfl rfl (fun hg => OK1.eqU (Has.g rfl hg) (Has.g rfl hg))) ?_
  refine DrG.st (i := 9) [29, 33] rfl rfl rfl (by kernel_rfl) (OKG.o rfl (OK1.pickAnd (Has.t rfl) (fun h => Has.g rfl h))) ?_
  refine DrG.st (i := 10) [34] rfl rfl rfl (by kernel_rfl) (OKG.o rfl (OK1.mv (Has.t rfl))) ?_
  refine DrG.st (i := 11) [35] rfl rfl rfl (by kernel_rfl) (OKG.T rfl rfl rfl (fun hg => OK1.load (Has.t rfl) (i := 0) rfl ty25 rfl (Ss' := [_]) rfl)) ?_
  refine DrG.st (i := 12) [35] rfl rfl rfl (by kernel_rfl) (OKG.T rfl rfl rfl (fun hg => OK1.mv (Has.t rfl))) ?_
  refine DrG.st (i := 13) [35, 36, 37] rfl rfl rfl (by kernel_rfl) (OKG.T rfl rfl rfl (fun hg => OK1.call (gfp_Norm) (.cons (Has.g rfl hg) (.cons (Has.g rfl hg) .nil)))) ?_
  refine DrG.st (i := 14) [35] rfl rfl rfl (by kernel_rfl) (OKG.T rfl rfl rfl (fun hg => OK1.mv (Has.t rfl))) ?_
  refine DrG.st (i := 15) [35, 38, 39] rfl rfl rfl (by kernel_rfl) (OKG.T rfl rfl rfl (fun hg => OK1.eqU (Has.g rfl hg) (Has.g rfl hg))) ?_
  refine DrG.st (i := 16) [35, 40] rfl rfl rfl (by kernel_rfl) (OKG.o rfl (OK1.pickAnd (Has.t rfl) (fun h => Has.g rfl h))) ?_
  refine DrG.st (i := 17) [41] rfl rfl rfl (by kernel_rfl) (OKG.o rfl (OK1.mv (Has.t rfl))) ?_
  refine DrG.st (i := 18) [42] rfl rfl rfl (by kernel_rfl) (OKG.T rfl rfl rfl (fun hg => OK1.load (Has.t rfl) (i := 0) rfl ty25 rfl (Ss' := [_]) rfl)) ?_
  refine DrG.st (i := 19) [42] rfl rfl rfl (by kernel_rfl) (OKG.T rfl rfl rfl (fun hg => OK1.mv (Has.t rfl))) ?_
  refine DrG.st (i := 20) [42] rfl rfl rfl (by kernel_rfl) (OKG.T rfl rfl rfl (fun hg => OK1.mv (Has.t rfl))) ?_
  refine DrG.st (i := 21) [42, 43, 44, 45] rfl rfl rfl (by kernel_rfl) (OKG.T rfl rfl rfl (fun hg => OK1.call (gfp_Add (by first | omega | assumption)) (.cons (Has.g rfl hg) (.cons (Has.g rfl hg) (.cons (Has.g rfl hg) .nil))))) ?_
  refine DrG.st (i := 22) [42] rfl rfl rfl (by kernel_rfl) (OKG.T rfl rfl rfl (fun hg => OK1.mv (Has.t rfl))) ?_
  refine DrG.st (i := 23) [42] rfl rfl rfl (by kernel_rfl) (OKG.T rfl rfl rfl (fun hg => OK1.mv (Has.t rfl))) ?_
  refine DrG.st (i := 24) [42, 47, 48] rfl rfl rfl (by kernel_rfl) (OKG.T rfl rfl rfl (fun hg => OK1.addU' (Has.g rfl hg) (Has.g rfl hg) (by first | omega | assumption))) ?_
  refine DrG.st (i := 25) [42] rfl rfl rfl (by kernel_rfl) (OKG.T rfl rfl rfl (fun hg => OK1.mv (Has.t rfl))) ?_
  refine DrG.st (i := 26) [42, 49, 50] rfl rfl rfl (by kernel_rfl) (OKG.T rfl rfl rfl (fun hg => OK1.remU (Has.g rfl hg) (Has.g rfl hg) (by first | omega | assumption) (by first | omega | assumption))) ?_
  refine DrG.st (i := 27) [42, 46, 51] rfl rfl rfl (by kernel_rfl) (OKG.T rfl rfl rfl (fun hg => OK1.eqU (Has.g rfl hg) (Has.g rfl hg))) ?_
  refine DrG.st (i := 28) [42, 52] rfl rfl rfl (by kernel_rfl) (OKG.o rfl (OK1.pickAnd (Has.t rfl) (fun h => Has.g rfl h))) ?_
  refine DrG.st (i := 29) [53] rfl rfl rfl (by kernel_rfl) (OKG.o rfl (OK1.mv (Has.t rfl))) ?_
  refine DrG.st (i := 30) [54] rfl rfl rfl (by kernel_rfl) (OKG.T rfl rfl rfl (fun hg => OK1.load (Has.t rfl) (i := 0) rfl ty25 rfl (Ss' := [_]) rfl)) ?_
  refine DrG.st (i := 31) [54] rfl rfl rfl (by kernel_rfl) (OKG.T rfl rfl rfl (fun hg => OK1.mv (Has.t rfl))) ?_
  refine DrG.st (i := 32) [54] rfl rfl rfl (by kernel_rfl) (OKG.T rfl rfl rfl (fun hg => OK1.mv (Has.t rfl))) ?_
  refine DrG.st (i := 33) [54, 55, 56, 57] rfl rfl rfl (by kernel_rfl) (OKG.T rfl rfl rfl (fun hg => OK1.call (gfp_Sub (by first | omega | assumption)) (.cons (Has.g rfl hg) (.cons (Has.g rfl hg) (.cons (Has.g rfl hg) .nil))))) ?_
  refine DrG.st (i := 34) [54] rfl rfl rfl (by kernel_rfl) (OKG.T rfl rfl rfl (fun hg => OK1.mv (Has.t rfl))) ?_
  refine DrG.st (i := 35) [54] rfl rfl rfl (by kernel_rfl) (OKG.T rfl rfl rfl (fun hg => OK1.mv (Has.t rfl))) ?_
  refine DrG.st (i := 36) [54, 59, 60] rfl rfl rfl (by kernel_rfl) (OKG.T rfl rfl rfl (fun hg => OK1.addU' (Has.g rfl hg) (Has.g rfl hg) (by first | omega | assumption))) ?_
  refine DrG.st (i := 37) [54] rfl rfl rfl (by kernel_rfl) (OKG.T rfl rfl rfl (fun hg => OK1.mv (Has.t rfl))) ?_
  refine DrG.st (i := 38) [54, 61, 62] rfl rfl rfl (by kernel_rfl) (OKG.T rfl rfl rfl (fun hg => OK1.subU' (Has.g rfl hg) (Has.g rfl hg) (by first | omega | assumption) (by first | omega | assumption))) ?_
  refine DrG.st (i := 39) [54] rfl rfl rfl (by kernel_rfl) (OKG.T rfl rfl rfl (fun hg => OK1.mv (Has.t rfl))) ?_
  refine DrG.st (i := 40) [54, 63, 64] rfl rfl rfl (by kernel_rfl) (OKG.T rfl rfl rfl (fun hg => OK1.remU (Has.g rfl hg) (Has.g rfl hg) (by first | omega | assumption) (by first | omega | assumption))) ?_
  refine DrG.st (i := 41) [54, 58, 65] rfl rfl rfl (by kernel_rfl) (OKG.T rfl rfl rfl (fun hg => OK1.eqU (Has.g rfl hg) (Has.g rfl hg))) ?_
  refine DrG.st (i := 42) [54, 66] rfl rfl rfl (by kernel_rfl) (OKG.o rfl (OK1.pickAnd (Has.t rfl) (fun h => Has.g rfl h))) ?_
  refine DrG.st (i := 43) [67] rfl rfl rfl (by kernel_rfl) (OKG.o rfl (OK1.mv (Has.t rfl))) ?_
  refine DrG.st (i := 44) [68] rfl rfl rfl (by kernel_rfl) (OKG.T rfl rfl rfl (fun hg => OK1.load (Has.t rfl) (i := 0) rfl ty25 rfl (Ss' := [_]) rfl)) ?_
  refine DrG.st (i := 45) [68] rfl rfl rfl (by kernel_rfl) (OKG.T rfl rfl rfl (fun hg => OK1.mv (Has.t rfl))) ?_
  refine DrG.st (i := 46) [68, 69, 70] rfl rfl rfl (by kernel_rfl) (OKG.T rfl rfl rfl (fun hg => OK1.call (gfp_Neg (by first | omega | assumption)) (.cons (Has.g rfl hg) (.cons (Has.g rfl hg) .nil)))) ?_
  refine DrG.st (i := 47) [68] rfl rfl rfl (by kernel_rfl) (OKG.T rfl rfl rfl (fun hg => OK1.mv (Has.t rfl))) ?_
  refine DrG.st (i := 48) [68] rfl rfl rfl (by kernel_rfl) (OKG.T rfl rfl rfl (fun hg => OK1.mv (Has.t rfl))) ?_
  refine DrG.st (i := 49) [68, 72, 73] rfl rfl rfl (by kernel_rfl) (OKG.T rfl rfl rfl (fun hg => OK1.subU' (Has.g rfl hg) (Has.g rfl hg) (by first | omega | assumption) (by first | omega | assumption))) ?_
  refine DrG.st (i := 50) [68] rfl rfl rfl (by kernel_rfl) (OKG.T rfl rfl rfl (fun hg => OK1.mv (Has.t rfl))) ?_
  refine DrG.st (i := 51) [68, 74, 75] rfl rfl rfl (by kernel_rfl) (OKG.T rfl rfl rfl (fun hg => OK1.remU (Has.g rfl hg) (Has.g rfl hg) (by first | omega | assumption) (by first | omega | assumption))) ?_
  refine DrG.st (i := 52) [68, 71, 76] rfl rfl rfl (by kernel_rfl) (OKG.T rfl rfl rfl (fun hg => OK1.eqU (Has.g rfl hg) (Has.g rfl hg))) ?_
  refine DrG.st (i := 53) [68, 77] rfl rfl rfl (by kernel_rfl) (OKG.o rfl (OK1.pickAnd (Has.t rfl) (fun h => Has.g rfl h))) ?_
  refine DrG.st (i := 54) [78] rfl rfl rfl (by kernel_rfl) (OKG.o rfl (OK1.mv (Has.t rfl))) ?_
  refine DrG.st (i := 55) [79] rfl rfl rfl (by kernel_rfl) (OKG.T rfl rfl rfl (fun hg => OK1.load (Has.t rfl) (i := 0) rfl ty25 rfl (Ss' := [_]) rfl)) ?_
  refine DrG.st (i := 56) [79] rfl rfl rfl (by kernel_rfl) (OKG.T rfl rfl rfl (fun hg => OK1.mv (Has.t rfl))) ?_
  refine DrG.st (i := 57) [79] rfl rfl rfl (by kernel_rfl) (OKG.T rfl rfl rfl (fun hg => OK1.mv (Has.t rfl))) ?_
  refine DrG.st (i := 58) [79, 80, 81, 82] rfl rfl rfl (by kernel_rfl) (OKG.T rfl rfl rfl (fun hg => OK1.call (gfp_Mul (by first | omega | assumption)) (.cons (Has.g rfl hg) (.cons (Has.g rfl hg) (.cons (Has.g rfl hg) .nil))))) ?_
  refine DrG.st (i := 59) [79] rfl rfl rfl (by kernel_rfl) (OKG.T rfl rfl rfl (fun hg => OK1.mv (Has.t rfl))) ?_
  refine DrG.st (i := 60) [79] rfl rfl rfl (by kernel_rfl) (OKG.T rfl rfl rfl (fun hg => OK1.mv (Has.t rfl))) ?_
  refine DrG.st (i := 61) [79] rfl rfl rfl (by kernel_rfl) (OKG.T rfl rfl rfl (fun hg => OK1.mv (Has.t rfl))) ?_
  refine DrG.fin (n := 62) mixed (by kernel_rfl) (by kernel_rfl) (by kernel_rfl) ?_
  refine Ops.cv (Cv.wk (.cons (t := 6) (Has.t rfl) (.cons (t := 79) (Has.t rfl) (.cons (t := 83) (Has.t rfl) (.cons (t := 84) (Has.t rfl) (.cons (t := 85) (Has.t rfl) (.cons (t := 86) (Has.t rfl) .nil))))))) ?_
  refine stT rfl rfl (fun hg => OK1.call (ref08_Mul (by first | omega | assumption) (by first | omega | assumption)) (.cons (Has.g rfl hg) (.cons (Has.g rfl hg) (.cons (Has.g rfl hg) .nil)))) rfl ?_
  refine stT rfl rfl (fun hg => OK1.eqU (Has.g rfl hg) (Has.g rfl hg)) rfl ?_
  refine st (OK1.pickAnd (Has.t rfl) (fun h => Has.g rfl h)) rfl ?_
  refine st (OK1.as (Has.t rfl)) rfl ?_
  refine nl ?_
  refine At.thn (hK5 _ _ ?_); clear hK5
  refine Tri.cv (Cv.wk (.cons (t := 6) (Has.t rfl) .nil)) ?_
  refine Tri.ret ?_
  refine rt1 (.inl rfl) Try.results6 rfl (.tmp (Has.t' rfl ?_) .nil)
  all_goals (exact isB_eq (by simp [hfp]))

theorem opens_GfpReckons : Opens Try.prog Try.f6 6 := by
  intro H enc W base args ds ps hval hA hlt
  rw [Try.params6] at hA hval
  obtain ⟨v0, vs0, d0, ds0, p0, q0, hargs, rfl, rfl, h0, r0⟩ := trodAll_cons hA
  obtain ⟨v1, vs1, d1, ds1, p1, q1, rfl, rfl, rfl, h1, r1⟩ := trodAll_cons r0
  obtain ⟨v2, vs2, d2, ds2, p2, q2, rfl, rfl, rfl, h2, r2⟩ := trodAll_cons r1
  obtain ⟨rfl, rfl, rfl⟩ := trodAll_nil r2
  obtain rfl : args = #[v0, v1, v2] := by cases args; simp_all
  obtain ⟨x0, o0⟩ := open_N un5 rfl (hval 0 5 v0 rfl rfl) h0
  obtain ⟨x1, o1⟩ := open_U un22 (hval 1 22 v1 rfl rfl) h1
  obtain ⟨x2, o2⟩ := open_U un22 (hval 2 22 v2 rfl rfl) h2
  refine ⟨_, ?_, c_GfpReckons x0 x1 x2⟩
  exact ⟨o0 _, o1 _, o2 _, trivial⟩
theorem gfpReckons_said : Rows.GfpReckonsSaid :=
  OpenClaim.holds_of_wide 6 Try.f6 rfl rfl rfl rfl rfl rfl rfl ⟨rfl, rfl, rfl, rfl, rfl⟩ rfl rfl rfl rfl rfl (by kernel_rfl) Try.func6 (by kernel_rfl)
    (of_decide_eq_true (by kernel_rfl)) (by unfold Func.isWrapper; first | (rw [if_pos (by decide +kernel)]; kernel_rfl) | (rw [if_neg (by decide +kernel)]; exact ⟨rfl, rfl⟩))
    (fun os started H enc _ => lift_law (C := Try.checked) (s := Rows.gfpReckonsSpec) (by kernel_rfl) started (by kernel_rfl) Try.func6
      (ChangeSpec.witness6 (enc := enc) (C := Try.checked) false ⟨#[], #[.int .u8 0, .int .u64 0, .int .u64 0], []⟩ 8 (by kernel_rfl) (by kernel_rfl) (by kernel_rfl) (by kernel_rfl))
      (by kernel_rfl) (by kernel_rfl) rfl rfl un4 (fun ds h => by match ds, h with | [d0, d1, d2], _ => rfl) opens_GfpReckons)
#print axioms gfpReckons_said
end Go.Proofs.Ytoegabldmcbgpaa
