/- The laws of layer 8 over words. -/
import Derived.Test.YtoegabldmcbgpaaGfp2
import Derived.Test.YtoegabldmcbgpaaRows
namespace Go.Proofs.Ytoegabldmcbgpaa
open Go.En Go.RowKit
set_option linter.unusedVariables false
set_option maxRecDepth 10000
open Go.Gf
open Go.ChangeShapes Go.WideShapes Go.ChangeAt
theorem c_GfpField (n a b c : Nat) : Ctr Try.prog 5 [isK .u8 (n : Int), Flat [isU a, isU b, isU c]] (isB true) := by
  refine Ctr.intro Try.func5 rfl (by kernel_rfl) Try.ntmps5 rfl fun w0 F0 => ?_
  refine Tri.cv (Cv.wk (.cons (t := 0) (Has.t rfl) (.cons (t := 1) (Has.t rfl) .nil))) ?_
  have hpl := ptab_le (k := n % 12)
  have hp2 := ptab_two (n % 12)
  have hfp := ptab_fp (n % 12)
  refine Tri.seq fun K1 hK1 => ?_
  refine Tri.region ?_
  refine Ops.box (Has.t rfl) rfl fun b1 => ?_
  refine st (OK1.as (Has.cB false)) rfl ?_
  refine nl ?_
  refine At.thn (hK1 _ _ ?_); clear hK1
  refine Tri.seq fun K2 hK2 => ?_
  refine Tri.region ?_
  refine st (OK1.mv (Has.t rfl)) rfl ?_
  refine st (OK1.call ref08_P (.cons (Has.t rfl) .nil)) rfl ?_
  refine st (OK1.call (gfp_New_yes (ptab_pr _)) (.cons (Has.t rfl) .nil)) rfl ?_
  refine st (OK1.mv (Has.t rfl)) rfl ?_
  refine st (OK1.ext (Has.t rfl) rfl) rfl ?_
  refine st (OK1.ext (Has.t rfl) rfl) rfl ?_
  refine Ops.alloc [isU 0] zero25 (fun _ _ => ⟨⟨rfl, by decide⟩, trivial⟩) rfl fun b2 => ?_
  refine Ops.store (Has.t rfl) (Has.t rfl) (i := 0) rfl ty25 rfl rfl (Ss' := [_]) rfl (M' := [(some _, cellM [_]), _]) rfl ?_
  refine st (OK1.as (Has.t rfl)) rfl ?_
  refine nl ?_
  refine At.thn (hK2 _ _ ?_); clear hK2
  refine Tri.cv (Cv.wk (.cons (t := 3) (Has.t rfl) (.cons (t := 4) (Has.t rfl) (.cons (t := 5) (Has.t rfl) (.cons (t := 6) (Has.t rfl) .nil))))) ?_
  refine Tri.seq fun K3 hK3 => ?_
  refine Tri.dr ?_
  refine DrG.st (i := 0) [] rfl rfl rfl (by kernel_rfl) (OKG.o rfl (OK1.ixVar arr36 ty22 (Has.t rfl) (evI (Has.cI 0 rfl)) (by first | omega | assumption) (by first | omega | assumption))) ?_
  refine DrG.st (i := 1) [16] rfl rfl rfl (by kernel_rfl) (OKG.o rfl (OK1.load1 (Has.t rfl) (i := 1) rfl ty22 rfl)) ?_
  refine DrG.st (i := 2) [] rfl rfl rfl (by kernel_rfl) (OKG.o rfl (OK1.ixVar arr36 ty22 (Has.t rfl) (evI (Has.cI 1 rfl)) (by first | omega | assumption) (by first | omega | assumption))) ?_
  refine DrG.st (i := 3) [18] rfl rfl rfl (by kernel_rfl) (OKG.o rfl (OK1.load1 (Has.t rfl) (i := 1) rfl ty22 rfl)) ?_
  refine DrG.st (i := 4) [] rfl rfl rfl (by kernel_rfl) (OKG.o rfl (OK1.ixVar arr36 ty22 (Has.t rfl) (evI (Has.cI 2 rfl)) (by first | omega | assumption) (by first | omega | assumption))) ?_
  refine DrG.st (i := 5) [20] rfl rfl rfl (by kernel_rfl) (OKG.o rfl (OK1.load1 (Has.t rfl) (i := 1) rfl ty22 rfl)) ?_
  refine DrG.st (i := 6) [17] rfl rfl rfl (by kernel_rfl) (OKG.o rfl (OK1.as (Has.t rfl))) ?_
  refine DrG.st (i := 7) [19] rfl rfl rfl (by kernel_rfl) (OKG.o rfl (OK1.as (Has.t rfl))) ?_
  refine DrG.fin (n := 8) mixed (by kernel_rfl) (by kernel_rfl) (by kernel_rfl) ?_
  refine Ops.cv (Cv.wk (.cons (t := 4) (Has.t rfl) (.cons (t := 5) (Has.t rfl) (.cons (t := 6) (Has.t rfl) (.cons (t := 21) (Has.t rfl) (.cons (t := 7) (Has.t rfl) (.cons (t := 8) (Has.t rfl) .nil))))))) ?_
  refine st (OK1.as (Has.t rfl)) rfl ?_
  refine nl ?_
  refine At.thn (hK3 _ _ ?_); clear hK3
  refine Tri.seq fun K4 hK4 => ?_
  refine Tri.dr ?_
  refine DrG.st (i := 0) [] rfl rfl rfl (by kernel_rfl) (OKG.o rfl (OK1.call (law08_awake) .nil)) ?_
  refine DrG.st (i := 1) [22] rfl rfl rfl (by kernel_rfl) (OKG.o rfl (OK1.mv (Has.t rfl))) ?_
  refine DrG.st (i := 2) [23] rfl rfl rfl (by kernel_rfl) (OKG.T rfl rfl rfl (fun hg => OK1.mv (Has.t rfl))) ?_
  refine DrG.st (i := 3) [23, 24] rfl rfl rfl (by kernel_rfl) (OKG.o rfl (OK1.pickAnd (Has.t rfl) (fun h => Has.g rfl h))) ?_
  refine DrG.st (i := 4) [25] rfl rfl rfl (by kernel_rfl) (OKG.o rfl (OK1.mv (Has.t rfl))) ?_
  refine DrG.st (i := 5) [26] rfl rfl rfl (by kernel_rfl) (OKG.T rfl rfl rfl (fun hg => OK1.load (Has.t rfl) (i := 0) rfl ty25 rfl (Ss' := [_]) rfl)) ?_
  refine DrG.st (i := 6) [26] rfl rfl rfl (by kernel_rfl) (OKG.T rfl rfl rfl (fun hg => OK1.mv (Has.t rfl))) ?_
  refine DrG.st (i := 7) [26] rfl rfl rfl (by kernel_rfl) (OKG.T rfl rfl rfl (fun hg => OK1.load (Has.t rfl) (i := 0) rfl ty25 rfl (Ss' := [_]) rfl)) ?_
  refine DrG.st (i := 8) [26] rfl rfl rfl (by kernel_rfl) (OKG.T rfl rfl rfl (fun hg => OK1.mv (Has.t rfl))) ?_
  refine DrG.st (i := 9) [26] rfl rfl rfl (by kernel_rfl) (OKG.T rfl rfl rfl (fun hg => OK1.mv (Has.t rfl))) ?_
  refine DrG.st (i := 10) [26, 29, 30, 31] rfl rfl rfl (by kernel_rfl) (OKG.T rfl rfl rfl (fun hg => OK1.call (gfp_Add (by omega)) (.cons (Has.g rfl hg) (.cons (Has.g rfl hg) (.cons (Has.g rfl hg) .nil))))) ?_
  refine DrG.st (i := 11) [26, 27, 28, 32] rfl rfl rfl (by kernel_rfl) (OKG.T rfl rfl rfl (fun hg => OK1.call (gfp_Mul (by omega)) (.cons (Has.g rfl hg) (.cons (Has.g rfl hg) (.cons (Has.g rfl hg) .nil))))) ?_
  refine DrG.st (i := 12) [26] rfl rfl rfl (by kernel_rfl) (OKG.T rfl rfl rfl (fun hg => OK1.load (Has.t rfl) (i := 0) rfl ty25 rfl (Ss' := [_]) rfl)) ?_
  refine DrG.st (i := 13) [26] rfl rfl rfl (by kernel_rfl) (OKG.T rfl rfl rfl (fun hg => OK1.load (Has.t rfl) (i := 0) rfl ty25 rfl (Ss' := [_]) rfl)) ?_
  refine DrG.st (i := 14) [26] rfl rfl rfl (by kernel_rfl) (OKG.T rfl rfl rfl (fun hg => OK1.mv (Has.t rfl))) ?_
  refine DrG.st (i := 15) [26] rfl rfl rfl (by kernel_rfl) (OKG.T rfl rfl rfl (fun hg => OK1.mv (Has.t rfl))) ?_
  refine DrG.st (i := 16) [26, 35, 36, 37] rfl rfl rfl (by kernel_rfl) (OKG.T rfl rfl rfl (fun hg => OK1.call (gfp_Mul (by omega)) (.cons (Has.g rfl hg) (.cons (Has.g rfl hg) (.cons (Has.g rfl hg) .nil))))) ?_
  refine DrG.st (i := 17) [26] rfl rfl rfl (by kernel_rfl) (OKG.T rfl rfl rfl (fun hg => OK1.load (Has.t rfl) (i := 0) rfl ty25 rfl (Ss' := [_]) rfl)) ?_
  refine DrG.st (i := 18) [26] rfl rfl rfl (by kernel_rfl) (OKG.T rfl rfl rfl (fun hg => OK1.mv (Has.t rfl))) ?_
  refine DrG.st (i := 19) [26] rfl rfl rfl (by kernel_rfl) (OKG.T rfl rfl rfl (fun hg => OK1.mv (Has.t rfl))) ?_
  refine DrG.st (i := 20) [26, 39, 40, 41] rfl rfl rfl (by kernel_rfl) (OKG.T rfl rfl rfl (fun hg => OK1.call (gfp_Mul (by omega)) (.cons (Has.g rfl hg) (.cons (Has.g rfl hg) (.cons (Has.g rfl hg) .nil))))) ?_
  refine DrG.st (i := 21) [26, 34, 38, 42] rfl rfl rfl (by kernel_rfl) (OKG.T rfl rfl rfl (fun hg => OK1.call (gfp_Add (by omega)) (.cons (Has.g rfl hg) (.cons (Has.g rfl hg) (.cons (Has.g rfl hg) .nil))))) ?_
  refine DrG.st (i := 22) [26, 33, 43] rfl rfl rfl (by kernel_rfl) (OKG.T rfl rfl rfl (fun hg => OK1.eqU (Has.g rfl hg) (Has.g rfl hg))) ?_
  refine DrG.st (i := 23) [26, 44] rfl rfl rfl (by kernel_rfl) (OKG.o rfl (OK1.pickAnd (Has.t rfl) (fun h => Has.g rfl h))) ?_
  refine DrG.st (i := 24) [45] rfl rfl rfl (by kernel_rfl) (OKG.o rfl (OK1.mv (Has.t rfl))) ?_
  refine DrG.st (i := 25) [46] rfl rfl rfl (by kernel_rfl) (OKG.T rfl rfl rfl (fun hg => OK1.load (Has.t rfl) (i := 0) rfl ty25 rfl (Ss' := [_]) rfl)) ?_
  refine DrG.st (i := 26) [46] rfl rfl rfl (by kernel_rfl) (OKG.T rfl rfl rfl (fun hg => OK1.mv (Has.t rfl))) ?_
  refine DrG.st (i := 27) [46] rfl rfl rfl (by kernel_rfl) (OKG.T rfl rfl rfl (fun hg => OK1.load (Has.t rfl) (i := 0) rfl ty25 rfl (Ss' := [_]) rfl)) ?_
  refine DrG.st (i := 28) [46] rfl rfl rfl (by kernel_rfl) (OKG.T rfl rfl rfl (fun hg => OK1.mv (Has.t rfl))) ?_
  refine DrG.st (i := 29) [46] rfl rfl rfl (by kernel_rfl) (OKG.T rfl rfl rfl (fun hg => OK1.mv (Has.t rfl))) ?_
  refine DrG.st (i := 30) [46, 49, 50, 51] rfl rfl rfl (by kernel_rfl) (OKG.T rfl rfl rfl (fun hg => OK1.call (gfp_Mul (by omega)) (.cons (Has.g rfl hg) (.cons (Has.g rfl hg) (.cons (Has.g rfl hg) .nil))))) ?_
  refine DrG.st (i := 31) [46, 47, 48, 52] rfl rfl rfl (by kernel_rfl) (OKG.T rfl rfl rfl (fun hg => OK1.call (gfp_Mul (by omega)) (.cons (Has.g rfl hg) (.cons (Has.g rfl hg) (.cons (Has.g rfl hg) .nil))))) ?_
  refine DrG.st (i := 32) [46] rfl rfl rfl (by kernel_rfl) (OKG.T rfl rfl rfl (fun hg => OK1.load (Has.t rfl) (i := 0) rfl ty25 rfl (Ss' := [_]) rfl)) ?_
  refine DrG.st (i := 33) [46] rfl rfl rfl (by kernel_rfl) (OKG.T rfl rfl rfl (fun hg => OK1.load (Has.t rfl) (i := 0) rfl ty25 rfl (Ss' := [_]) rfl)) ?_
  refine DrG.st (i := 34) [46] rfl rfl rfl (by kernel_rfl) (OKG.T rfl rfl rfl (fun hg => OK1.mv (Has.t rfl))) ?_
  refine DrG.st (i := 35) [46] rfl rfl rfl (by kernel_rfl) (OKG.T rfl rfl rfl (fun hg => OK1.mv (Has.t rfl))) ?_
  refine DrG.st (i := 36) [46, 55, 56, 57] rfl rfl rfl (by kernel_rfl) (OKG.T rfl rfl rfl (fun hg => OK1.call (gfp_Mul (by omega)) (.cons (Has.g rfl hg) (.cons (Has.g rfl hg) (.cons (Has.g rfl hg) .nil))))) ?_
  refine DrG.st (i := 37) [46] rfl rfl rfl (by kernel_rfl) (OKG.T rfl rfl rfl (fun hg => OK1.mv (Has.t rfl))) ?_
  refine DrG.st (i := 38) [46, 54, 58, 59] rfl rfl rfl (by kernel_rfl) (OKG.T rfl rfl rfl (fun hg => OK1.call (gfp_Mul (by omega)) (.cons (Has.g rfl hg) (.cons (Has.g rfl hg) (.cons (Has.g rfl hg) .nil))))) ?_
  refine DrG.st (i := 39) [46, 53, 60] rfl rfl rfl (by kernel_rfl) (OKG.T rfl rfl rfl (fun hg => OK1.eqU (Has.g rfl hg) (Has.g rfl hg))) ?_
  refine DrG.st (i := 40) [46, 61] rfl rfl rfl (by kernel_rfl) (OKG.o rfl (OK1.pickAnd (Has.t rfl) (fun h => Has.g rfl h))) ?_
  refine DrG.st (i := 41) [62] rfl rfl rfl (by kernel_rfl) (OKG.o rfl (OK1.mv (Has.t rfl))) ?_
  refine DrG.st (i := 42) [63] rfl rfl rfl (by kernel_rfl) (OKG.T rfl rfl rfl (fun hg => OK1.load (Has.t rfl) (i := 0) rfl ty25 rfl (Ss' := [_]) rfl)) ?_
  refine DrG.st (i := 43) [63] rfl rfl rfl (by kernel_rfl) (OKG.T rfl rfl rfl (fun hg => OK1.load (Has.t rfl) (i := 0) rfl ty25 rfl (Ss' := [_]) rfl)) ?_
  refine DrG.st (i := 44) [63] rfl rfl rfl (by kernel_rfl) (OKG.T rfl rfl rfl (fun hg => OK1.mv (Has.t rfl))) ?_
  refine DrG.st (i := 45) [63] rfl rfl rfl (by kernel_rfl) (OKG.T rfl rfl rfl (fun hg => OK1.mv (Has.t rfl))) ?_
  refine DrG.st (i := 46) [63, 65, 66, 67] rfl rfl rfl (by kernel_rfl) (OKG.T rfl rfl rfl (fun hg => OK1.call (gfp_Sub (by omega)) (.cons (Has.g rfl hg) (.cons (Has.g rfl hg) (.cons (Has.g rfl hg) .nil))))) ?_
  refine DrG.st (i := 47) [63] rfl rfl rfl (by kernel_rfl) (OKG.T rfl rfl rfl (fun hg => OK1.mv (Has.t rfl))) ?_
  refine DrG.st (i := 48) [63, 64, 68, 69] rfl rfl rfl (by kernel_rfl) (OKG.T rfl rfl rfl (fun hg => OK1.call (gfp_Add (by omega)) (.cons (Has.g rfl hg) (.cons (Has.g rfl hg) (.cons (Has.g rfl hg) .nil))))) ?_
  refine DrG.st (i := 49) [63] rfl rfl rfl (by kernel_rfl) (OKG.T rfl rfl rfl (fun hg => OK1.load (Has.t rfl) (i := 0) rfl ty25 rfl (Ss' := [_]) rfl)) ?_
  refine DrG.st (i := 50) [63] rfl rfl rfl (by kernel_rfl) (OKG.T rfl rfl rfl (fun hg => OK1.mv (Has.t rfl))) ?_
  refine DrG.fin (n := 51) mixed (by kernel_rfl) (by kernel_rfl) (by kernel_rfl) ?_
  refine Ops.cv (Cv.wk (.cons (t := 4) (Has.t rfl) (.cons (t := 63) (Has.t rfl) (.cons (t := 70) (Has.t rfl) (.cons (t := 71) (Has.t rfl) (.cons (t := 72) (Has.t rfl) .nil)))))) ?_
  refine stT rfl rfl (fun hg => OK1.call (gfp_Norm) (.cons (Has.g rfl hg) (.cons (Has.g rfl hg) .nil))) rfl ?_
  refine stT rfl rfl (fun hg => OK1.eqU (Has.g rfl hg) (Has.g rfl hg)) rfl ?_
  refine st (OK1.pickAnd (Has.t rfl) (fun h => Has.g rfl h)) rfl ?_
  refine st (OK1.as (Has.t rfl)) rfl ?_
  refine nl ?_
  refine At.thn (hK4 _ _ ?_); clear hK4
  refine Tri.cv (Cv.wk (.cons (t := 4) (Has.t rfl) .nil)) ?_
  refine Tri.ret ?_
  refine rt1 (.inl rfl) Try.results5 rfl (.tmp (Has.t' rfl ?_) .nil)
  all_goals (exact isB_eq (law_field a b c hfp (by omega)))

theorem opens_GfpField : Opens Try.prog Try.f5 5 := by
  intro H enc W base args ds ps hval hA hlt
  rw [Try.params5] at hA hval
  obtain ⟨v0, vs0, d0, ds0, p0, q0, hargs, rfl, rfl, h0, r0⟩ := trodAll_cons hA
  obtain ⟨v1, vs1, d1, ds1, p1, q1, rfl, rfl, rfl, h1, r1⟩ := trodAll_cons r0
  obtain ⟨rfl, rfl, rfl⟩ := trodAll_nil r1
  obtain rfl : args = #[v0, v1] := by cases args; simp_all
  obtain ⟨x0, o0⟩ := open_N un5 rfl (hval 0 5 v0 rfl rfl) h0
  obtain ⟨x1, o1⟩ := open_arrU3 (T' := 22) (by kernel_rfl) un22 (by kernel_rfl) (by kernel_rfl) (hval 1 36 v1 rfl rfl) h1
  refine ⟨_, ?_, c_GfpField x0 x1.1 x1.2.1 x1.2.2⟩
  exact ⟨o0 _, o1 _, trivial⟩
theorem gfpField_said : Rows.GfpFieldSaid :=
  OpenClaim.holds_of_wide 5 Try.f5 rfl rfl rfl rfl rfl rfl rfl ⟨rfl, rfl, rfl, rfl, rfl⟩ rfl rfl rfl rfl rfl (by kernel_rfl) Try.func5 (by kernel_rfl)
    (of_decide_eq_true (by kernel_rfl)) (by unfold Func.isWrapper; first | (rw [if_pos (by decide +kernel)]; kernel_rfl) | (rw [if_neg (by decide +kernel)]; exact ⟨rfl, rfl⟩))
    (fun os started H enc _ => lift_law (C := Try.checked) (s := Rows.gfpFieldSpec) (by kernel_rfl) started (by kernel_rfl) Try.func5
      (ChangeSpec.witness6 (enc := enc) (C := Try.checked) false ⟨#[], #[.int .u8 0, .agg #[.int .u64 0, .int .u64 0, .int .u64 0]], []⟩ 8 (by kernel_rfl) (by kernel_rfl) (by kernel_rfl) (by kernel_rfl))
      (by kernel_rfl) (by kernel_rfl) rfl rfl un4 (fun ds h => by match ds, h with | [d0, d1], _ => rfl) opens_GfpField)
#print axioms gfpField_said

theorem c_GfpNew (p a b : Nat) : Ctr Try.prog 4 [isK .u32 (p : Int), isU a, isU b] (isB true) := by
  refine Ctr.intro Try.func4 rfl (by kernel_rfl) Try.ntmps4 rfl fun w0 F0 => ?_
  refine Tri.cv (Cv.wk (.cons (t := 0) (Has.t rfl) (.cons (t := 1) (Has.t rfl) (.cons (t := 2) (Has.t rfl) .nil)))) ?_
  refine Tri.fact (Has.rngK (Has.t (t := 0) rfl)) fun lt0 => ?_
  simp only [IntKind.min, IntKind.max, IntKind.signed, IntKind.bits] at lt0
  refine Tri.fact (Has.ltU (Has.t (t := 1) rfl)) fun lt1 => ?_
  refine Tri.fact (Has.ltU (Has.t (t := 2) rfl)) fun lt2 => ?_
  have hk : IntKind.u32.max = 4294967295 := by decide
  have hf0 : fp 0 = 2 := rfl
  have hle := new_le (p := p % 100000)
  refine Tri.seq fun K1 hK1 => ?_
  refine Tri.region ?_
  refine st (OK1.as (Has.cB false)) rfl ?_
  refine nl ?_
  refine At.thn (hK1 _ _ ?_); clear hK1
  refine Tri.seq fun K2 hK2 => ?_
  refine Tri.region ?_
  refine st (OK1.mv (Has.t rfl)) rfl ?_
  refine st (OK1.remK (Has.t rfl) (Has.cK .u32 100000 rfl) (by first | omega | decide | (rw [hk]; omega) | (simp; omega)) (by first | omega | decide | (rw [hk]; omega) | (simp; omega)) (by first | omega | decide | (rw [hk]; omega) | (simp; omega))) rfl ?_
  refine st (OK1.convKU un32 un22 (Has.t rfl) (by first | omega | decide | (rw [hk]; omega) | (simp; omega)) (by first | omega | decide | (rw [hk]; omega) | (simp; omega))) rfl ?_
  refine st (OK1.as (Has.t rfl)) rfl ?_
  refine nl ?_
  refine At.thn (hK2 _ _ ?_); clear hK2
  refine Tri.seq fun K3 hK3 => ?_
  refine Tri.region ?_
  refine st (OK1.mv (Has.t rfl)) rfl ?_
  refine st (OK1.call gfp_New (.cons (Has.t rfl) .nil)) rfl ?_
  refine st (OK1.mv (Has.t rfl)) rfl ?_
  refine st (OK1.ext (Has.t rfl) rfl) rfl ?_
  refine st (OK1.ext (Has.t rfl) rfl) rfl ?_
  refine Ops.alloc [isU 0] zero25 (fun _ _ => ⟨⟨rfl, by decide⟩, trivial⟩) rfl fun b1 => ?_
  refine Ops.store (Has.t rfl) (Has.t rfl) (i := 0) rfl ty25 rfl rfl (Ss' := [_]) rfl (M' := [(some _, cellM [_])]) rfl ?_
  refine st (OK1.as (Has.t rfl)) rfl ?_
  refine nl ?_
  refine At.thn (hK3 _ _ ?_); clear hK3
  refine Tri.cv (Cv.wk (.cons (t := 1) (Has.t rfl) (.cons (t := 2) (Has.t rfl) (.cons (t := 6) (Has.t rfl) (.cons (t := 7) (Has.t rfl) (.cons (t := 8) (Has.t rfl) (.cons (t := 9) (Has.t rfl) .nil))))))) ?_
  refine Tri.seq fun K4 hK4 => ?_
  refine Tri.region ?_
  refine st (OK1.mv (Has.t rfl)) rfl ?_
  refine st (OK1.remU (Has.t rfl) (Has.cU 1000000007 rfl) (by first | omega | decide | (rw [hk]; omega) | (simp; omega)) (by first | omega | decide | (rw [hk]; omega) | (simp; omega))) rfl ?_
  refine st (OK1.addU' (Has.cU 2147483648 rfl) (Has.t rfl) (by first | omega | decide | (rw [hk]; omega) | (simp; omega))) rfl ?_
  refine st (OK1.call (gfp_New_no (pr_false (.inr (by omega)))) (.cons (Has.t rfl) .nil)) rfl ?_
  refine st (OK1.mv (Has.t rfl)) rfl ?_
  refine st (OK1.ext (Has.t rfl) rfl) rfl ?_
  refine st (OK1.ext (Has.t rfl) rfl) rfl ?_
  refine Ops.alloc [isU 0] zero25 (fun _ _ => ⟨⟨rfl, by decide⟩, trivial⟩) rfl fun b2 => ?_
  refine Ops.store (Has.t rfl) (Has.t rfl) (i := 0) rfl ty25 rfl rfl (Ss' := [_]) rfl (M' := [(some _, cellM [_]), _]) rfl ?_
  refine st (OK1.as (Has.t rfl)) rfl ?_
  refine nl ?_
  refine At.thn (hK4 _ _ ?_); clear hK4
  refine Tri.cv (Cv.wk (.cons (t := 1) (Has.t rfl) (.cons (t := 2) (Has.t rfl) (.cons (t := 6) (Has.t rfl) (.cons (t := 7) (Has.t rfl) (.cons (t := 8) (Has.t rfl) (.cons (t := 9) (Has.t rfl) (.cons (t := 11) (Has.t rfl) .nil)))))))) ?_
  refine Tri.seq fun K5 hK5 => ?_
  refine Tri.region ?_
  refine Ops.alloc [isU 0] zero25 (fun _ _ => ⟨⟨rfl, by decide⟩, trivial⟩) rfl fun b3 => ?_
  refine nl ?_
  refine At.thn (hK5 _ _ ?_); clear hK5
  refine Tri.seq fun K6 hK6 => ?_
  refine Tri.seq fun K7 hK7 => ?_
  refine Tri.region ?_
  refine st (OK1.call (law08_awake) .nil) rfl ?_
  refine st (OK1.not (Has.t rfl)) rfl ?_
  refine st (OK1.mv (Has.t rfl)) rfl ?_
  refine stF rfl rfl (fun hg => OK1.mv (Has.t rfl)) rfl ?_
  refine stF rfl rfl (fun hg => OK1.mv (Has.t rfl)) rfl ?_
  refine stF rfl rfl (fun hg => OK1.convUI un22 un3 (Has.g rfl hg) (by first | omega | decide | (rw [hk]; omega) | (simp; omega))) rfl ?_
  refine stF rfl rfl (fun hg => OK1.call (ref06_Prime (p := p % 100000) (by omega)) (.cons (Has.g rfl hg) .nil)) rfl ?_
  refine stF rfl rfl (fun hg => OK1.neB (du := un4) rfl (Has.g rfl hg) (Has.g rfl hg)) rfl ?_
  refine st (OK1.pickOr (Has.t rfl) (fun h => Has.g rfl (ng h))) rfl ?_
  refine st (OK1.mv (Has.t rfl)) rfl ?_
  refine stF rfl rfl (fun hg => OK1.mv (Has.t rfl)) rfl ?_
  refine st (OK1.pickOr (Has.t rfl) (fun h => Has.g rfl (ng h))) rfl ?_
  refine st (OK1.mv (Has.t rfl)) rfl ?_
  refine stF rfl rfl (fun hg => OK1.load (Has.t rfl) (i := 0) rfl ty25 rfl (Ss' := [_]) rfl) rfl ?_
  refine stF rfl rfl (fun hg => OK1.call (gfp_P) (.cons (Has.g rfl hg) .nil)) rfl ?_
  refine stF rfl rfl (fun hg => OK1.neU (Has.g rfl hg) (Has.cU 2 rfl)) rfl ?_
  refine st (OK1.pickOr (Has.t rfl) (fun h => Has.g rfl (ng h))) rfl ?_
  refine st (OK1.mv (Has.t rfl)) rfl ?_
  refine stF rfl rfl (fun hg => OK1.load (Has.t rfl) (i := 0) rfl ty25 rfl (Ss' := [_]) rfl) rfl ?_
  refine stF rfl rfl (fun hg => OK1.mv (Has.t rfl)) rfl ?_
  refine stF rfl rfl (fun hg => OK1.mv (Has.t rfl)) rfl ?_
  refine stF rfl rfl (fun hg => OK1.call (gfp_Add (by first | omega | decide | (rw [hk]; omega) | (simp; omega))) (.cons (Has.g rfl hg) (.cons (Has.g rfl hg) (.cons (Has.g rfl hg) .nil)))) rfl ?_
  refine stF rfl rfl (fun hg => OK1.mv (Has.t rfl)) rfl ?_
  refine stF rfl rfl (fun hg => OK1.remU (Has.g rfl hg) (Has.cU 2 rfl) (by first | omega | decide | (rw [hk]; omega) | (simp; omega)) (by first | omega | decide | (rw [hk]; omega) | (simp; omega))) rfl ?_
  refine stF rfl rfl (fun hg => OK1.mv (Has.t rfl)) rfl ?_
  refine stF rfl rfl (fun hg => OK1.remU (Has.g rfl hg) (Has.cU 2 rfl) (by first | omega | decide | (rw [hk]; omega) | (simp; omega)) (by first | omega | decide | (rw [hk]; omega) | (simp; omega))) rfl ?_
  refine stF rfl rfl (fun hg => OK1.addU' (Has.g rfl hg) (Has.g rfl hg) (by first | omega | decide | (rw [hk]; omega) | (simp; omega))) rfl ?_
  refine stF rfl rfl (fun hg => OK1.remU (Has.g rfl hg) (Has.cU 2 rfl) (by first | omega | decide | (rw [hk]; omega) | (simp; omega)) (by first | omega | decide | (rw [hk]; omega) | (simp; omega))) rfl ?_
  refine stF rfl rfl (fun hg => OK1.neU (Has.g rfl hg) (Has.g rfl hg)) rfl ?_
  refine st (OK1.pickOr (Has.t rfl) (fun h => Has.g rfl (ng h))) rfl ?_
  refine nl ?_
  refine At.thn (hK7 _ _ ?_); clear hK7
  refine Tri.cv (Cv.wk (.cons (t := 6) (Has.t rfl) (.cons (t := 7) (Has.t rfl) (.cons (t := 8) (Has.t rfl) (.cons (t := 9) (Has.t rfl) (.cons (t := 57) (Has.t rfl) .nil)))))) ?_
  refine Tri.cond (Has.t rfl) (fun hc1 => ?_) (fun hc1 => ?_)
  · have hc1 := BP.t hc1
    exact absurd hc1 (by rw [show ((p : Int) % 100000).toNat = p % 100000 by omega]; simp [hf0])
  · have hc1 := BP.f hc1
    refine Tri.skip ?_
    refine At.thn (hK6 _ _ ?_); clear hK6
    refine Tri.seq fun K8 hK8 => ?_
    refine Tri.region ?_
    refine st (OK1.mv (Has.t rfl)) rfl ?_
    refine st (OK1.mv (Has.t rfl)) rfl ?_
    refine stT rfl rfl (fun hg => OK1.load (Has.t rfl) (i := 2) rfl ty25 rfl (Ss' := [_]) rfl) rfl ?_
    refine stT rfl rfl (fun hg => OK1.call (gfp_P) (.cons (Has.g rfl hg) .nil)) rfl ?_
    refine stT rfl rfl (fun hg => OK1.mv (Has.t rfl)) rfl ?_
    refine stT rfl rfl (fun hg => OK1.eqU (Has.g rfl hg) (Has.g rfl hg)) rfl ?_
    refine st (OK1.pickAnd (Has.t rfl) (fun h => Has.g rfl h)) rfl ?_
    refine st (OK1.mv (Has.t rfl)) rfl ?_
    refine stF rfl rfl (fun hg => OK1.mv (Has.t rfl)) rfl ?_
    refine stF rfl rfl (fun hg => OK1.not (Has.g rfl hg)) rfl ?_
    refine stF rfl rfl (fun hg => OK1.mv (Has.g rfl hg)) rfl ?_
    refine stGT rfl rfl (fun hg => OK1.load (Has.t rfl) (i := 2) rfl ty25 rfl (Ss' := [_]) rfl) rfl ?_
    refine stGT rfl rfl (fun hg => OK1.call (gfp_P) (.cons (Has.g rfl hg) .nil)) rfl ?_
    refine stGT rfl rfl (fun hg => OK1.eqU (Has.g rfl hg) (Has.cU 2 rfl)) rfl ?_
    refine stF rfl rfl (fun hg => OK1.pickAnd (Has.g rfl hg) (fun h => Has.g rfl (ga hg h))) rfl ?_
    refine st (OK1.pickOr (Has.t rfl) (fun h => Has.g rfl (ng h))) rfl ?_
    refine st (OK1.as (Has.t rfl)) rfl ?_
    refine nl ?_
    refine At.thn (hK8 _ _ ?_); clear hK8
    refine Tri.cv (Cv.wk (.cons (t := 6) (Has.t rfl) .nil)) ?_
    refine Tri.ret ?_
    refine rt1 (.inl rfl) Try.results4 rfl (.tmp (Has.t' rfl ?_) .nil)
    all_goals (exact isB_eq (by rw [show ((p : Int) % 100000).toNat = p % 100000 by omega]; exact law_new))

theorem opens_GfpNew : Opens Try.prog Try.f4 4 := by
  intro H enc W base args ds ps hval hA hlt
  rw [Try.params4] at hA hval
  obtain ⟨v0, vs0, d0, ds0, p0, q0, hargs, rfl, rfl, h0, r0⟩ := trodAll_cons hA
  obtain ⟨v1, vs1, d1, ds1, p1, q1, rfl, rfl, rfl, h1, r1⟩ := trodAll_cons r0
  obtain ⟨v2, vs2, d2, ds2, p2, q2, rfl, rfl, rfl, h2, r2⟩ := trodAll_cons r1
  obtain ⟨rfl, rfl, rfl⟩ := trodAll_nil r2
  obtain rfl : args = #[v0, v1, v2] := by cases args; simp_all
  obtain ⟨x0, o0⟩ := open_N un32 rfl (hval 0 32 v0 rfl rfl) h0
  obtain ⟨x1, o1⟩ := open_U un22 (hval 1 22 v1 rfl rfl) h1
  obtain ⟨x2, o2⟩ := open_U un22 (hval 2 22 v2 rfl rfl) h2
  refine ⟨_, ?_, c_GfpNew x0 x1 x2⟩
  exact ⟨o0 _, o1 _, o2 _, trivial⟩
theorem gfpNew_said : Rows.GfpNewSaid :=
  OpenClaim.holds_of_wide 4 Try.f4 rfl rfl rfl rfl rfl rfl rfl ⟨rfl, rfl, rfl, rfl, rfl⟩ rfl rfl rfl rfl rfl (by kernel_rfl) Try.func4 (by kernel_rfl)
    (of_decide_eq_true (by kernel_rfl)) (by unfold Func.isWrapper; first | (rw [if_pos (by decide +kernel)]; kernel_rfl) | (rw [if_neg (by decide +kernel)]; exact ⟨rfl, rfl⟩))
    (fun os started H enc _ => lift_law (C := Try.checked) (s := Rows.gfpNewSpec) (by kernel_rfl) started (by kernel_rfl) Try.func4
      (ChangeSpec.witness6 (enc := enc) (C := Try.checked) false ⟨#[], #[.int .u32 0, .int .u64 0, .int .u64 0], []⟩ 8 (by kernel_rfl) (by kernel_rfl) (by kernel_rfl) (by kernel_rfl))
      (by kernel_rfl) (by kernel_rfl) rfl rfl un4 (fun ds h => by match ds, h with | [d0, d1, d2], _ => rfl) opens_GfpNew)
#print axioms gfpNew_said
end Go.Proofs.Ytoegabldmcbgpaa
