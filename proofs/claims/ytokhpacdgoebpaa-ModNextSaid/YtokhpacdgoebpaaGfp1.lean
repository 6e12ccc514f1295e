/- Contracts: fields of words. -/
import Derived.Test.YtokhpacdgoebpaaTy
import Derived.Test.YtokhpacdgoebpaaGfpM
namespace Go.Proofs.Ytokhpacdgoebpaa
open Go.En Go.RowKit
set_option linter.unusedVariables false
set_option maxRecDepth 10000
open Go.Gf
set_option maxHeartbeats 4000000 in
theorem gfp_P {q : Nat} : Ctr Try.prog 106 [Flat [isU q]] (isU (fp q)) := by
  refine Ctr.intro Try.func106 rfl (by kernel_rfl) Try.ntmps106 rfl fun w0 F0 => ?_
  refine Tri.cv (Cv.wk (.cons (t := 0) (Has.t rfl) .nil)) ?_
  refine Tri.seq fun K1 hK1 => ?_
  refine Tri.region ?_
  refine Ops.box (Has.t rfl) rfl fun b1 => ?_
  refine st (OK1.as (Has.cU 0 rfl)) rfl ?_
  refine nl ?_
  refine At.thn (hK1 _ _ ?_); clear hK1
  refine Tri.seq fun K2 hK2 => ?_
  refine Tri.seq fun K3 hK3 => ?_
  refine Tri.region ?_
  refine st (OK1.fieldAddr (Has.t rfl) fld29_0 ty27) rfl ?_
  refine st (OK1.load1 (Has.t rfl) (i := 0) rfl ty27 rfl) rfl ?_
  refine st (OK1.eqU (Has.t rfl) (Has.cU 0 rfl)) rfl ?_
  refine nl ?_
  refine At.thn (hK3 _ _ ?_); clear hK3
  refine Tri.cond (Has.t rfl) (fun hc1 => ?_) (fun hc1 => ?_)
  · have hc1 := BP.t hc1
    refine Tri.seq fun K4 hK4 => ?_
    refine Tri.region ?_
    refine st (OK1.as (Has.cU 2 rfl)) rfl ?_
    refine nl ?_
    refine At.thn (hK4 _ _ ?_); clear hK4
    refine Tri.ret ?_
    refine At.thr ?_
    refine rt1 (.inl rfl) Try.results106 rfl (.tmp (Has.t' rfl ?_) .nil)
    all_goals (exact isU_eq (by rw [fp, if_pos hc1]))
  · have hc1 := BP.f hc1
    refine Tri.skip ?_
    refine At.thn (hK2 _ _ ?_); clear hK2
    refine Tri.seq fun K5 hK5 => ?_
    refine Tri.region ?_
    refine st (OK1.fieldAddr (Has.t rfl) fld29_0 ty27) rfl ?_
    refine st (OK1.load1 (Has.t rfl) (i := 0) rfl ty27 rfl) rfl ?_
    refine st (OK1.as (Has.t rfl)) rfl ?_
    refine nl ?_
    refine At.thn (hK5 _ _ ?_); clear hK5
    refine Tri.cv (Cv.wk (.cons (t := 2) (Has.t rfl) .nil)) ?_
    refine Tri.ret ?_
    refine rt1 (.inl rfl) Try.results106 rfl (.tmp (Has.t' rfl ?_) .nil)
    all_goals (exact isU_eq (by rw [fp, if_neg hc1]))

set_option maxHeartbeats 4000000 in
theorem gfp_Norm {q a : Nat} : Ctr Try.prog 92 [Flat [isU q], isU a] (isU (a % fp q)) := by
  refine Ctr.intro Try.func92 rfl (by kernel_rfl) Try.ntmps92 rfl fun w0 F0 => ?_
  refine Tri.cv (Cv.wk (.cons (t := 0) (Has.t rfl) (.cons (t := 1) (Has.t rfl) .nil))) ?_
  refine Tri.fact (Has.ltU (Has.t (t := 1) rfl)) fun lt1 => ?_
  have hp := fp_pos q
  refine Tri.seq fun K1 hK1 => ?_
  refine Tri.region ?_
  refine Ops.box (Has.t rfl) rfl fun b1 => ?_
  refine st (OK1.as (Has.cU 0 rfl)) rfl ?_
  refine nl ?_
  refine At.thn (hK1 _ _ ?_); clear hK1
  refine Tri.seq fun K2 hK2 => ?_
  refine Tri.region ?_
  refine st (OK1.mv (Has.t rfl)) rfl ?_
  refine st (OK1.load (Has.t rfl) (i := 0) rfl ty29 rfl (Ss' := [_]) rfl) rfl ?_
  refine st (OK1.call (gfp_P) (.cons (Has.t rfl) .nil)) rfl ?_
  refine st (OK1.remU (Has.t rfl) (Has.t rfl) (by first | omega | assumption) (by first | omega | assumption)) rfl ?_
  refine st (OK1.as (Has.t rfl)) rfl ?_
  refine nl ?_
  refine At.thn (hK2 _ _ ?_); clear hK2
  refine Tri.cv (Cv.wk (.cons (t := 4) (Has.t rfl) .nil)) ?_
  refine Tri.ret ?_
  refine rt1 (.inl rfl) Try.results92 rfl (.tmp (Has.t' rfl ?_) .nil)
  all_goals (rfl)

set_option maxHeartbeats 4000000 in
theorem gfp_Add {q a b : Nat} (hq : q < 4294967296) : Ctr Try.prog 57 [Flat [isU q], isU a, isU b] (isU ((a % fp q + b % fp q) % fp q)) := by
  refine Ctr.intro Try.func57 rfl (by kernel_rfl) Try.ntmps57 rfl fun w0 F0 => ?_
  refine Tri.cv (Cv.wk (.cons (t := 0) (Has.t rfl) (.cons (t := 1) (Has.t rfl) (.cons (t := 2) (Has.t rfl) .nil)))) ?_
  refine Tri.fact (Has.ltU (Has.t (t := 1) rfl)) fun lt1 => ?_
  refine Tri.fact (Has.ltU (Has.t (t := 2) rfl)) fun lt2 => ?_
  have hp := fp_pos q
  have hl := fp_lt hq
  have ha := Nat.mod_lt a hp
  have hb := Nat.mod_lt b hp
  refine Tri.seq fun K1 hK1 => ?_
  refine Tri.region ?_
  refine Ops.box (Has.t rfl) rfl fun b1 => ?_
  refine st (OK1.as (Has.cU 0 rfl)) rfl ?_
  refine nl ?_
  refine At.thn (hK1 _ _ ?_); clear hK1
  refine Tri.seq fun K2 hK2 => ?_
  refine Tri.dr ?_
  refine DrG.st (i := 0) [] rfl rfl rfl (by kernel_rfl) (OKG.o rfl (OK1.load (Has.t rfl) (i := 0) rfl ty29 rfl (Ss' := [_]) rfl)) ?_
  refine DrG.st (i := 1) [] rfl rfl rfl (by kernel_rfl) (OKG.o rfl (OK1.mv (Has.t rfl))) ?_
  refine DrG.st (i := 2) [7, 8] rfl rfl rfl (by kernel_rfl) (OKG.o rfl (OK1.call (gfp_Norm) (.cons (Has.t rfl) (.cons (Has.t rfl) .nil)))) ?_
  refine DrG.st (i := 3) [] rfl rfl rfl (by kernel_rfl) (OKG.o rfl (OK1.load (Has.t rfl) (i := 0) rfl ty29 rfl (Ss' := [_]) rfl)) ?_
  refine DrG.st (i := 4) [] rfl rfl rfl (by kernel_rfl) (OKG.o rfl (OK1.mv (Has.t rfl))) ?_
  refine DrG.st (i := 5) [10, 11] rfl rfl rfl (by kernel_rfl) (OKG.o rfl (OK1.call (gfp_Norm) (.cons (Has.t rfl) (.cons (Has.t rfl) .nil)))) ?_
  refine DrG.st (i := 6) [9, 12] rfl rfl rfl (by kernel_rfl) (OKG.o rfl (OK1.addU' (Has.t rfl) (Has.t rfl) (by first | omega | assumption))) ?_
  refine DrG.st (i := 7) [] rfl rfl rfl (by kernel_rfl) (OKG.o rfl (OK1.load (Has.t rfl) (i := 0) rfl ty29 rfl (Ss' := [_]) rfl)) ?_
  refine DrG.st (i := 8) [14] rfl rfl rfl (by kernel_rfl) (OKG.o rfl (OK1.call (gfp_P) (.cons (Has.t rfl) .nil))) ?_
  refine DrG.fin (n := 9) mixed (by kernel_rfl) (by kernel_rfl) (by kernel_rfl) ?_
  refine Ops.cv (Cv.wk (.cons (t := 6) (Has.t rfl) (.cons (t := 13) (Has.t rfl) (.cons (t := 15) (Has.t rfl) .nil)))) ?_
  refine st (OK1.remU (Has.t rfl) (Has.t rfl) (by first | omega | assumption) (by first | omega | assumption)) rfl ?_
  refine st (OK1.as (Has.t rfl)) rfl ?_
  refine nl ?_
  refine At.thn (hK2 _ _ ?_); clear hK2
  refine Tri.ret ?_
  refine rt1 (.inl rfl) Try.results57 rfl (.tmp (Has.t' rfl ?_) .nil)
  all_goals (rfl)

set_option maxHeartbeats 4000000 in
theorem gfp_Sub {q a b : Nat} (hq : q < 4294967296) : Ctr Try.prog 111 [Flat [isU q], isU a, isU b] (isU ((a % fp q + fp q - b % fp q) % fp q)) := by
  refine Ctr.intro Try.func111 rfl (by kernel_rfl) Try.ntmps111 rfl fun w0 F0 => ?_
  refine Tri.cv (Cv.wk (.cons (t := 0) (Has.t rfl) (.cons (t := 1) (Has.t rfl) (.cons (t := 2) (Has.t rfl) .nil)))) ?_
  refine Tri.fact (Has.ltU (Has.t (t := 1) rfl)) fun lt1 => ?_
  refine Tri.fact (Has.ltU (Has.t (t := 2) rfl)) fun lt2 => ?_
  have hp := fp_pos q
  have hl := fp_lt hq
  have ha := Nat.mod_lt a hp
  have hb := Nat.mod_lt b hp
  refine Tri.seq fun K1 hK1 => ?_
  refine Tri.region ?_
  refine Ops.box (Has.t rfl) rfl fun b1 => ?_
  refine st (OK1.as (Has.cU 0 rfl)) rfl ?_
  refine nl ?_
  refine At.thn (hK1 _ _ ?_); clear hK1
  refine Tri.seq fun K2 hK2 => ?_
  refine Tri.dr ?_
  refine DrG.st (i := 0) [] rfl rfl rfl (by kernel_rfl) (OKG.o rfl (OK1.load (Has.t rfl) (i := 0) rfl ty29 rfl (Ss' := [_]) rfl)) ?_
  refine DrG.st (i := 1) [] rfl rfl rfl (by kernel_rfl) (OKG.o rfl (OK1.mv (Has.t rfl))) ?_
  refine DrG.st (i := 2) [7, 8] rfl rfl rfl (by kernel_rfl) (OKG.o rfl (OK1.call (gfp_Norm) (.cons (Has.t rfl) (.cons (Has.t rfl) .nil)))) ?_
  refine DrG.st (i := 3) [] rfl rfl rfl (by kernel_rfl) (OKG.o rfl (OK1.load (Has.t rfl) (i := 0) rfl ty29 rfl (Ss' := [_]) rfl)) ?_
  refine DrG.st (i := 4) [10] rfl rfl rfl (by kernel_rfl) (OKG.o rfl (OK1.call (gfp_P) (.cons (Has.t rfl) .nil))) ?_
  refine DrG.st (i := 5) [9, 11] rfl rfl rfl (by kernel_rfl) (OKG.o rfl (OK1.addU' (Has.t rfl) (Has.t rfl) (by first | omega | assumption))) ?_
  refine DrG.st (i := 6) [] rfl rfl rfl (by kernel_rfl) (OKG.o rfl (OK1.load (Has.t rfl) (i := 0) rfl ty29 rfl (Ss' := [_]) rfl)) ?_
  refine DrG.st (i := 7) [] rfl rfl rfl (by kernel_rfl) (OKG.o rfl (OK1.mv (Has.t rfl))) ?_
  refine DrG.st (i := 8) [13, 14] rfl rfl rfl (by kernel_rfl) (OKG.o rfl (OK1.call (gfp_Norm) (.cons (Has.t rfl) (.cons (Has.t rfl) .nil)))) ?_
  refine DrG.st (i := 9) [12, 15] rfl rfl rfl (by kernel_rfl) (OKG.o rfl (OK1.subU' (Has.t rfl) (Has.t rfl) (by first | omega | assumption) (by first | omega | assumption))) ?_
  refine DrG.st (i := 10) [] rfl rfl rfl (by kernel_rfl) (OKG.o rfl (OK1.load (Has.t rfl) (i := 0) rfl ty29 rfl (Ss' := [_]) rfl)) ?_
  refine DrG.st (i := 11) [17] rfl rfl rfl (by kernel_rfl) (OKG.o rfl (OK1.call (gfp_P) (.cons (Has.t rfl) .nil))) ?_
  refine DrG.fin (n := 12) mixed (by kernel_rfl) (by kernel_rfl) (by kernel_rfl) ?_
  refine Ops.cv (Cv.wk (.cons (t := 6) (Has.t rfl) (.cons (t := 16) (Has.t rfl) (.cons (t := 18) (Has.t rfl) .nil)))) ?_
  refine st (OK1.remU (Has.t rfl) (Has.t rfl) (by first | omega | assumption) (by first | omega | assumption)) rfl ?_
  refine st (OK1.as (Has.t rfl)) rfl ?_
  refine nl ?_
  refine At.thn (hK2 _ _ ?_); clear hK2
  refine Tri.ret ?_
  refine rt1 (.inl rfl) Try.results111 rfl (.tmp (Has.t' rfl ?_) .nil)
  all_goals (rfl)

set_option maxHeartbeats 4000000 in
theorem gfp_Neg {q a : Nat} (hq : q < 4294967296) : Ctr Try.prog 60 [Flat [isU q], isU a] (isU ((fp q - a % fp q) % fp q)) := by
  refine Ctr.intro Try.func60 rfl (by kernel_rfl) Try.ntmps60 rfl fun w0 F0 => ?_
  refine Tri.cv (Cv.wk (.cons (t := 0) (Has.t rfl) (.cons (t := 1) (Has.t rfl) .nil))) ?_
  refine Tri.fact (Has.ltU (Has.t (t := 1) rfl)) fun lt1 => ?_
  have hp := fp_pos q
  refine Tri.seq fun K1 hK1 => ?_
  refine Tri.region ?_
  refine Ops.box (Has.t rfl) rfl fun b1 => ?_
  refine st (OK1.as (Has.cU 0 rfl)) rfl ?_
  refine nl ?_
  refine At.thn (hK1 _ _ ?_); clear hK1
  refine Tri.seq fun K2 hK2 => ?_
  refine Tri.region ?_
  refine st (OK1.load (Has.t rfl) (i := 0) rfl ty29 rfl (Ss' := [_]) rfl) rfl ?_
  refine st (OK1.mv (Has.t rfl)) rfl ?_
  refine st (OK1.call (gfp_Sub (by first | omega | assumption)) (.cons (Has.t rfl) (.cons (Has.cU 0 rfl) (.cons (Has.t rfl) .nil)))) rfl ?_
  refine st (OK1.as (Has.t rfl)) rfl ?_
  refine nl ?_
  refine At.thn (hK2 _ _ ?_); clear hK2
  refine Tri.cv (Cv.wk (.cons (t := 4) (Has.t rfl) .nil)) ?_
  refine Tri.ret ?_
  refine rt1 (.inl rfl) Try.results60 rfl (.tmp (Has.t' rfl ?_) .nil)
  all_goals (exact isU_eq (by rw [Nat.zero_mod, Nat.zero_add]))

set_option maxHeartbeats 4000000 in
theorem gfp_Mul {q a b : Nat} (hq : q < 4294967296) : Ctr Try.prog 58 [Flat [isU q], isU a, isU b] (isU (a * b % fp q)) := by
  refine Ctr.intro Try.func58 rfl (by kernel_rfl) Try.ntmps58 rfl fun w0 F0 => ?_
  refine Tri.cv (Cv.wk (.cons (t := 0) (Has.t rfl) (.cons (t := 1) (Has.t rfl) (.cons (t := 2) (Has.t rfl) .nil)))) ?_
  refine Tri.fact (Has.ltU (Has.t (t := 1) rfl)) fun lt1 => ?_
  refine Tri.fact (Has.ltU (Has.t (t := 2) rfl)) fun lt2 => ?_
  have hp := fp_pos q
  have hl := fp_lt hq
  have ha := Nat.mod_lt a hp
  have hb := Nat.mod_lt b hp
  have hab : (a % fp q) * (b % fp q) < 18446744073709551616 := Nat.lt_of_lt_of_le (Nat.mul_lt_mul'' (Nat.lt_trans ha hl) (Nat.lt_trans hb hl)) (by decide)
  refine Tri.seq fun K1 hK1 => ?_
  refine Tri.region ?_
  refine Ops.box (Has.t rfl) rfl fun b1 => ?_
  refine st (OK1.as (Has.cU 0 rfl)) rfl ?_
  refine nl ?_
  refine At.thn (hK1 _ _ ?_); clear hK1
  refine Tri.seq fun K2 hK2 => ?_
  refine Tri.dr ?_
  refine DrG.st (i := 0) [] rfl rfl rfl (by kernel_rfl) (OKG.o rfl (OK1.load (Has.t rfl) (i := 0) rfl ty29 rfl (Ss' := [_]) rfl)) ?_
  refine DrG.st (i := 1) [] rfl rfl rfl (by kernel_rfl) (OKG.o rfl (OK1.mv (Has.t rfl))) ?_
  refine DrG.st (i := 2) [7, 8] rfl rfl rfl (by kernel_rfl) (OKG.o rfl (OK1.call (gfp_Norm) (.cons (Has.t rfl) (.cons (Has.t rfl) .nil)))) ?_
  refine DrG.st (i := 3) [] rfl rfl rfl (by kernel_rfl) (OKG.o rfl (OK1.load (Has.t rfl) (i := 0) rfl ty29 rfl (Ss' := [_]) rfl)) ?_
  refine DrG.st (i := 4) [] rfl rfl rfl (by kernel_rfl) (OKG.o rfl (OK1.mv (Has.t rfl))) ?_
  refine DrG.st (i := 5) [10, 11] rfl rfl rfl (by kernel_rfl) (OKG.o rfl (OK1.call (gfp_Norm) (.cons (Has.t rfl) (.cons (Has.t rfl) .nil)))) ?_
  refine DrG.st (i := 6) [9, 12] rfl rfl rfl (by kernel_rfl) (OKG.o rfl (OK1.mulU' (Has.t rfl) (Has.t rfl) (by first | omega | assumption))) ?_
  refine DrG.st (i := 7) [] rfl rfl rfl (by kernel_rfl) (OKG.o rfl (OK1.load (Has.t rfl) (i := 0) rfl ty29 rfl (Ss' := [_]) rfl)) ?_
  refine DrG.st (i := 8) [14] rfl rfl rfl (by kernel_rfl) (OKG.o rfl (OK1.call (gfp_P) (.cons (Has.t rfl) .nil))) ?_
  refine DrG.fin (n := 9) mixed (by kernel_rfl) (by kernel_rfl) (by kernel_rfl) ?_
  refine Ops.cv (Cv.wk (.cons (t := 6) (Has.t rfl) (.cons (t := 13) (Has.t rfl) (.cons (t := 15) (Has.t rfl) .nil)))) ?_
  refine st (OK1.remU (Has.t rfl) (Has.t rfl) (by first | omega | assumption) (by first | omega | assumption)) rfl ?_
  refine st (OK1.as (Has.t rfl)) rfl ?_
  refine nl ?_
  refine At.thn (hK2 _ _ ?_); clear hK2
  refine Tri.ret ?_
  refine rt1 (.inl rfl) Try.results58 rfl (.tmp (Has.t' rfl ?_) .nil)
  all_goals (exact isU_eq (Nat.mul_mod _ _ _).symm)

set_option maxHeartbeats 4000000 in
theorem gfp_raise {q a n : Nat} (hq : q < 4294967296) : Ctr Try.prog 144 [Flat [isU q], isU a, isU n] (isU (a ^ n % fp q)) := by
  refine Ctr.intro Try.func144 rfl (by kernel_rfl) Try.ntmps144 rfl fun w0 F0 => ?_
  refine Tri.cv (Cv.wk (.cons (t := 0) (Has.t rfl) (.cons (t := 1) (Has.t rfl) (.cons (t := 2) (Has.t rfl) .nil)))) ?_
  refine Tri.fact (Has.ltU (Has.t (t := 1) rfl)) fun lt1 => ?_
  refine Tri.fact (Has.ltU (Has.t (t := 2) rfl)) fun lt2 => ?_
  have hp := fp_pos q
  have hl := fp_lt hq
  refine Tri.seq fun K1 hK1 => ?_
  refine Tri.region ?_
  refine Ops.box (Has.t rfl) rfl fun b1 => ?_
  refine st (OK1.as (Has.cU 0 rfl)) rfl ?_
  refine nl ?_
  refine At.thn (hK1 _ _ ?_); clear hK1
  refine Tri.seq fun K2 hK2 => ?_
  refine Tri.region ?_
  refine st (OK1.load (Has.t rfl) (i := 0) rfl ty29 rfl (Ss' := [_]) rfl) rfl ?_
  refine st (OK1.call (gfp_Norm) (.cons (Has.t rfl) (.cons (Has.cU 1 rfl) .nil))) rfl ?_
  refine st (OK1.as (Has.t rfl)) rfl ?_
  refine nl ?_
  refine At.thn (hK2 _ _ ?_); clear hK2
  refine Tri.seq fun K3 hK3 => ?_
  refine Tri.block ?_
  refine Tri.loopF [3, 6] (fun (z : { z : Nat × Nat × Nat // z.1 * z.2.1 ^ z.2.2 % fp q = a ^ n % fp q ∧ z.1 < fp q ∧ z.2.2 < 18446744073709551616 }) => match z with | ⟨(o, x, k), hI⟩ => [(7, isU o), (1, isU x), (2, isU k)]) (fun M => fun (z : { z : Nat × Nat × Nat // z.1 * z.2.1 ^ z.2.2 % fp q = a ^ n % fp q ∧ z.1 < fp q ∧ z.2.2 < 18446744073709551616 }) => match z with | ⟨(o, x, k), hI⟩ => M) (fun (z : { z : Nat × Nat × Nat // z.1 * z.2.1 ^ z.2.2 % fp q = a ^ n % fp q ∧ z.1 < fp q ∧ z.2.2 < 18446744073709551616 }) => match z with | ⟨(o, x, k), hI⟩ => k) (⟨(1 % fp q, a, n), raise_start _ a n hp lt2⟩) (Cv.mem (.cons (t := 7) (Has.t' rfl ?_) (.cons (t := 1) (Has.t' rfl ?_) (.cons (t := 2) (Has.t' rfl ?_) (.cons (t := 3) (Has.t rfl) (.cons (t := 6) (Has.t rfl) .nil))))) ?_) ?_
  · rfl
  · rfl
  · rfl
  · rfl
  rintro ⟨⟨o, x, k⟩, hI1, hI2, hI3⟩ K4 hK4
  refine Tri.cv (Cv.wk (.cons (t := 7) (Has.t rfl) (.cons (t := 1) (Has.t rfl) (.cons (t := 2) (Has.t rfl) (.cons (t := 3) (Has.t rfl) (.cons (t := 6) (Has.t rfl) .nil)))))) ?_
  simp only [] at hI1 hI2 hI3
  refine Tri.seq fun K5 hK5 => ?_
  refine Tri.seq fun K6 hK6 => ?_
  refine Tri.region ?_
  refine st (OK1.mv (Has.t rfl)) rfl ?_
  refine st (OK1.gtU (Has.t rfl) (Has.cU 0 rfl)) rfl ?_
  refine nl ?_
  refine At.thn (hK6 _ _ ?_); clear hK6
  refine Tri.cond (Has.t rfl) (fun hc1 => ?_) (fun hc1 => ?_)
  · have hc1 := BP.t hc1
    refine Tri.skip ?_
    refine At.thn (hK5 _ _ ?_); clear hK5
    refine Tri.seq fun K7 hK7 => ?_
    refine Tri.block ?_
    refine Tri.seq fun K8 hK8 => ?_
    refine Tri.seq fun K9 hK9 => ?_
    refine Tri.region ?_
    refine st (OK1.mv (Has.t rfl)) rfl ?_
    refine st (OK1.remU (Has.t rfl) (Has.cU 2 rfl) (by first | omega | assumption) (by first | omega | assumption)) rfl ?_
    refine st (OK1.eqU (Has.t rfl) (Has.cU 1 rfl)) rfl ?_
    refine nl ?_
    refine At.thn (hK9 _ _ ?_); clear hK9
    refine Tri.cond (Has.t rfl) (fun hc2 => ?_) (fun hc2 => ?_)
    · have hc2 := BP.t hc2
      refine Tri.region ?_
      refine st (OK1.load (Has.t rfl) (i := 0) rfl ty29 rfl (Ss' := [_]) rfl) rfl ?_
      refine st (OK1.mv (Has.t rfl)) rfl ?_
      refine st (OK1.mv (Has.t rfl)) rfl ?_
      refine st (OK1.call (gfp_Mul (by first | omega | assumption)) (.cons (Has.t rfl) (.cons (Has.t rfl) (.cons (Has.t rfl) .nil)))) rfl ?_
      refine st (OK1.as (Has.t rfl)) rfl ?_
      refine nl ?_
      refine At.thn (hK8 _ _ ?_); clear hK8
      refine Tri.region ?_
      refine st (OK1.load (Has.t rfl) (i := 0) rfl ty29 rfl (Ss' := [_]) rfl) rfl ?_
      refine st (OK1.mv (Has.t rfl)) rfl ?_
      refine st (OK1.mv (Has.t rfl)) rfl ?_
      refine st (OK1.call (gfp_Mul (by first | omega | assumption)) (.cons (Has.t rfl) (.cons (Has.t rfl) (.cons (Has.t rfl) .nil)))) rfl ?_
      refine st (OK1.as (Has.t rfl)) rfl ?_
      refine nl ?_
      refine At.bln ?_
      refine At.thn (hK7 _ _ ?_); clear hK7
      refine Tri.region ?_
      refine st (OK1.mv (Has.t rfl)) rfl ?_
      refine st (OK1.quoU (Has.t rfl) (Has.cU 2 rfl) (by first | omega | assumption) (by first | omega | assumption)) rfl ?_
      refine st (OK1.as (Has.t rfl)) rfl ?_
      refine nl ?_
      refine At.thn ?_
      refine hK4 (⟨(o * x % fp q, x * x % fp q, k / 2), raise_odd hp hI1 hI3 hc2⟩) _ _ ?_ (Cv.mem (.cons (t := 7) (Has.t' rfl ?_) (.cons (t := 1) (Has.t' rfl ?_) (.cons (t := 2) (Has.t' rfl ?_) (.cons (t := 3) (Has.t rfl) (.cons (t := 6) (Has.t rfl) .nil))))) ?_)
      · show k / 2 < k; omega
      · rfl
      · rfl
      · rfl
      · rfl
    · have hc2 := BP.f hc2
      refine Tri.skip ?_
      refine At.thn (hK8 _ _ ?_); clear hK8
      refine Tri.region ?_
      refine st (OK1.load (Has.t rfl) (i := 0) rfl ty29 rfl (Ss' := [_]) rfl) rfl ?_
      refine st (OK1.mv (Has.t rfl)) rfl ?_
      refine st (OK1.mv (Has.t rfl)) rfl ?_
      refine st (OK1.call (gfp_Mul (by first | omega | assumption)) (.cons (Has.t rfl) (.cons (Has.t rfl) (.cons (Has.t rfl) .nil)))) rfl ?_
      refine st (OK1.as (Has.t rfl)) rfl ?_
      refine nl ?_
      refine At.bln ?_
      refine At.thn (hK7 _ _ ?_); clear hK7
      refine Tri.region ?_
      refine st (OK1.mv (Has.t rfl)) rfl ?_
      refine st (OK1.quoU (Has.t rfl) (Has.cU 2 rfl) (by first | omega | assumption) (by first | omega | assumption)) rfl ?_
      refine st (OK1.as (Has.t rfl)) rfl ?_
      refine nl ?_
      refine At.thn ?_
      refine hK4 (⟨(o, x * x % fp q, k / 2), raise_even hI1 hI2 hI3 hc2⟩) _ _ ?_ (Cv.mem (.cons (t := 7) (Has.t' rfl ?_) (.cons (t := 1) (Has.t' rfl ?_) (.cons (t := 2) (Has.t' rfl ?_) (.cons (t := 3) (Has.t rfl) (.cons (t := 6) (Has.t rfl) .nil))))) ?_)
      · show k / 2 < k; omega
      · rfl
      · rfl
      · rfl
      · rfl
  · have hc1 := BP.f hc1
    refine Tri.exit ?_
    refine At.the ?_
    refine At.the ?_
    refine At.blh ?_
    refine At.thn (hK3 _ _ ?_); clear hK3
    refine Tri.cv (Cv.wk (.cons (t := 6) (Has.t rfl) (.cons (t := 7) (Has.t rfl) .nil))) ?_
    refine Tri.seq fun K10 hK10 => ?_
    refine Tri.region ?_
    refine st (OK1.mv (Has.t rfl)) rfl ?_
    refine st (OK1.as (Has.t rfl)) rfl ?_
    refine nl ?_
    refine At.thn (hK10 _ _ ?_); clear hK10
    refine Tri.ret ?_
    refine rt1 (.inl rfl) Try.results144 rfl (.tmp (Has.t' rfl ?_) .nil)
    all_goals (exact isU_eq (raise_end hI1 hI2 (by omega)))

set_option maxHeartbeats 4000000 in
theorem gfp_Inv {q a : Nat} (hq : q < 4294967296) (h2 : 2 ≤ fp q) : Ctr Try.prog 107 [Flat [isU q], isU a] (isU (inv (fp q) a)) := by
  refine Ctr.intro Try.func107 rfl (by kernel_rfl) Try.ntmps107 rfl fun w0 F0 => ?_
  refine Tri.cv (Cv.wk (.cons (t := 0) (Has.t rfl) (.cons (t := 1) (Has.t rfl) .nil))) ?_
  refine Tri.fact (Has.ltU (Has.t (t := 1) rfl)) fun lt1 => ?_
  have hp := fp_pos q
  have hl := fp_lt hq
  refine Tri.seq fun K1 hK1 => ?_
  refine Tri.region ?_
  refine Ops.box (Has.t rfl) rfl fun b1 => ?_
  refine st (OK1.as (Has.cU 0 rfl)) rfl ?_
  refine nl ?_
  refine At.thn (hK1 _ _ ?_); clear hK1
  refine Tri.seq fun K2 hK2 => ?_
  refine Tri.seq fun K3 hK3 => ?_
  refine Tri.region ?_
  refine st (OK1.load (Has.t rfl) (i := 0) rfl ty29 rfl (Ss' := [_]) rfl) rfl ?_
  refine st (OK1.mv (Has.t rfl)) rfl ?_
  refine st (OK1.call (gfp_Norm) (.cons (Has.t rfl) (.cons (Has.t rfl) .nil))) rfl ?_
  refine st (OK1.eqU (Has.t rfl) (Has.cU 0 rfl)) rfl ?_
  refine nl ?_
  refine At.thn (hK3 _ _ ?_); clear hK3
  refine Tri.cond (Has.t rfl) (fun hc1 => ?_) (fun hc1 => ?_)
  · have hc1 := BP.t hc1
    refine Tri.seq fun K4 hK4 => ?_
    refine Tri.region ?_
    refine st (OK1.as (Has.cU 0 rfl)) rfl ?_
    refine nl ?_
    refine At.thn (hK4 _ _ ?_); clear hK4
    refine Tri.cv (Cv.wk (.cons (t := 1) (Has.t rfl) (.cons (t := 2) (Has.t rfl) (.cons (t := 4) (Has.t rfl) .nil)))) ?_
    refine Tri.ret ?_
    refine At.thr ?_
    refine rt1 (.inl rfl) Try.results107 rfl (.tmp (Has.t' rfl ?_) .nil)
    all_goals (exact isU_eq (by rw [inv, if_pos hc1]))
  · have hc1 := BP.f hc1
    refine Tri.skip ?_
    refine At.thn (hK2 _ _ ?_); clear hK2
    refine Tri.cv (Cv.wk (.cons (t := 1) (Has.t rfl) (.cons (t := 2) (Has.t rfl) (.cons (t := 4) (Has.t rfl) .nil)))) ?_
    refine Tri.seq fun K5 hK5 => ?_
    refine Tri.dr ?_
    refine DrG.st (i := 0) [] rfl rfl rfl (by kernel_rfl) (OKG.o rfl (OK1.load (Has.t rfl) (i := 0) rfl ty29 rfl (Ss' := [_]) rfl)) ?_
    refine DrG.st (i := 1) [] rfl rfl rfl (by kernel_rfl) (OKG.o rfl (OK1.mv (Has.t rfl))) ?_
    refine DrG.st (i := 2) [] rfl rfl rfl (by kernel_rfl) (OKG.o rfl (OK1.load (Has.t rfl) (i := 0) rfl ty29 rfl (Ss' := [_]) rfl)) ?_
    refine DrG.st (i := 3) [11] rfl rfl rfl (by kernel_rfl) (OKG.o rfl (OK1.call (gfp_P) (.cons (Has.t rfl) .nil))) ?_
    refine DrG.st (i := 4) [12] rfl rfl rfl (by kernel_rfl) (OKG.o rfl (OK1.subU' (Has.t rfl) (Has.cU 2 rfl) (by first | omega | assumption) (by first | omega | assumption))) ?_
    refine DrG.fin (n := 5) mixed (by kernel_rfl) (by kernel_rfl) (by kernel_rfl) ?_
    refine Ops.cv (Cv.wk (.cons (t := 4) (Has.t rfl) (.cons (t := 9) (Has.t rfl) (.cons (t := 10) (Has.t rfl) (.cons (t := 13) (Has.t rfl) .nil))))) ?_
    refine st (OK1.call (gfp_raise (by first | omega | assumption)) (.cons (Has.t rfl) (.cons (Has.t rfl) (.cons (Has.t rfl) .nil)))) rfl ?_
    refine st (OK1.as (Has.t rfl)) rfl ?_
    refine nl ?_
    refine At.thn (hK5 _ _ ?_); clear hK5
    refine Tri.ret ?_
    refine rt1 (.inl rfl) Try.results107 rfl (.tmp (Has.t' rfl ?_) .nil)
    all_goals (exact isU_eq (by rw [inv, if_neg hc1]))

set_option maxHeartbeats 4000000 in
theorem modn_Prime {p : Nat} : Ctr Try.prog 61 [isU p] (isB (pr p)) := by
  refine Ctr.intro Try.func61 rfl (by kernel_rfl) Try.ntmps61 rfl fun w0 F0 => ?_
  refine Tri.cv (Cv.wk (.cons (t := 0) (Has.t rfl) .nil)) ?_
  refine Tri.fact (Has.ltU (Has.t (t := 0) rfl)) fun lt0 => ?_
  refine Tri.seq fun K1 hK1 => ?_
  refine Tri.region ?_
  refine st (OK1.as (Has.cB false)) rfl ?_
  refine nl ?_
  refine At.thn (hK1 _ _ ?_); clear hK1
  refine Tri.seq fun K2 hK2 => ?_
  refine Tri.seq fun K3 hK3 => ?_
  refine Tri.region ?_
  refine st (OK1.mv (Has.t rfl)) rfl ?_
  refine st (OK1.ltU (Has.t rfl) (Has.cU 2 rfl)) rfl ?_
  refine st (OK1.mv (Has.t rfl)) rfl ?_
  refine stF rfl rfl (fun hg => have hg' := BP.t hg; OK1.mv (Has.t rfl)) rfl ?_
  refine stF rfl rfl (fun hg => have hg' := BP.t hg; OK1.geU (Has.g rfl hg) (Has.cU 2147483648 rfl)) rfl ?_
  refine st (OK1.pickOr (Has.t rfl) (fun h => Has.g rfl (ng h))) rfl ?_
  refine st (OK1.mv (Has.t rfl)) rfl ?_
  refine stF rfl rfl (fun hg => have hg' := BP.t hg; OK1.mv (Has.t rfl)) rfl ?_
  refine stF rfl rfl (fun hg => have hg' := BP.t hg; OK1.remU (Has.g rfl hg) (Has.cU 2 rfl) (by first | omega | assumption) (by first | omega | assumption)) rfl ?_
  refine stF rfl rfl (fun hg => have hg' := BP.t hg; OK1.eqU (Has.g rfl hg) (Has.cU 0 rfl)) rfl ?_
  refine st (OK1.pickOr (Has.t rfl) (fun h => Has.g rfl (ng h))) rfl ?_
  refine nl ?_
  refine At.thn (hK3 _ _ ?_); clear hK3
  refine Tri.cv (Cv.wk (.cons (t := 0) (Has.t rfl) (.cons (t := 2) (Has.t rfl) (.cons (t := 14) (Has.t rfl) .nil)))) ?_
  refine Tri.cond (Has.t rfl) (fun hc1 => ?_) (fun hc1 => ?_)
  · have hc1 := BP.t hc1
    refine Tri.seq fun K4 hK4 => ?_
    refine Tri.region ?_
    refine st (OK1.mv (Has.t rfl)) rfl ?_
    refine st (OK1.eqU (Has.t rfl) (Has.cU 2 rfl)) rfl ?_
    refine st (OK1.as (Has.t rfl)) rfl ?_
    refine nl ?_
    refine At.thn (hK4 _ _ ?_); clear hK4
    refine Tri.ret ?_
    refine At.thr ?_
    refine rt1 (.inl rfl) Try.results61 rfl (.tmp (Has.t' rfl ?_) .nil)
    all_goals (exact isB_eq (pr_small hc1))
  · have hc1 := BP.f hc1
    refine Tri.skip ?_
    refine At.thn (hK2 _ _ ?_); clear hK2
    refine Tri.seq fun K5 hK5 => ?_
    refine Tri.seq fun K6 hK6 => ?_
    refine Tri.region ?_
    refine st (OK1.as (Has.cU 3 rfl)) rfl ?_
    refine nl ?_
    refine At.thn (hK6 _ _ ?_); clear hK6
    refine Tri.block ?_
    refine Tri.loopF [0] (fun (z : { d : Nat // d % 2 = 1 ∧ 3 ≤ d ∧ d < 65536 ∧ NoDiv p d }) => match z with | ⟨d, hI⟩ => [(3, isU d)]) (fun M => fun (z : { d : Nat // d % 2 = 1 ∧ 3 ≤ d ∧ d < 65536 ∧ NoDiv p d }) => match z with | ⟨d, hI⟩ => M) (fun (z : { d : Nat // d % 2 = 1 ∧ 3 ≤ d ∧ d < 65536 ∧ NoDiv p d }) => match z with | ⟨d, hI⟩ => 65536 - d) (⟨3, by omega, by omega, by omega, noDiv_three (by omega)⟩) (Cv.mem (.cons (t := 3) (Has.t' rfl ?_) (.cons (t := 0) (Has.t rfl) .nil)) ?_) ?_
    · rfl
    · rfl
    rintro ⟨d, hd1, hd2, hd3, hd4⟩ K7 hK7
    refine Tri.cv (Cv.wk (.cons (t := 3) (Has.t rfl) (.cons (t := 0) (Has.t rfl) .nil))) ?_
    have hdd : d * d < 4294967296 := Nat.mul_lt_mul'' hd3 hd3
    refine Tri.seq fun K8 hK8 => ?_
    refine Tri.seq fun K9 hK9 => ?_
    refine Tri.region ?_
    refine st (OK1.mv (Has.t rfl)) rfl ?_
    refine st (OK1.mv (Has.t rfl)) rfl ?_
    refine st (OK1.mulU' (Has.t rfl) (Has.t rfl) (by first | omega | assumption)) rfl ?_
    refine st (OK1.mv (Has.t rfl)) rfl ?_
    refine st (OK1.leU (Has.t rfl) (Has.t rfl)) rfl ?_
    refine nl ?_
    refine At.thn (hK9 _ _ ?_); clear hK9
    refine Tri.cond (Has.t rfl) (fun hc2 => ?_) (fun hc2 => ?_)
    · have hc2 := BP.t hc2
      refine Tri.skip ?_
      refine At.thn (hK8 _ _ ?_); clear hK8
      refine Tri.seq fun K10 hK10 => ?_
      refine Tri.block ?_
      refine Tri.seq fun K11 hK11 => ?_
      refine Tri.region ?_
      refine st (OK1.mv (Has.t rfl)) rfl ?_
      refine st (OK1.mv (Has.t rfl)) rfl ?_
      refine st (OK1.remU (Has.t rfl) (Has.t rfl) (by first | omega | assumption) (by first | omega | assumption)) rfl ?_
      refine st (OK1.eqU (Has.t rfl) (Has.cU 0 rfl)) rfl ?_
      refine nl ?_
      refine At.thn (hK11 _ _ ?_); clear hK11
      refine Tri.cond (Has.t rfl) (fun hc3 => ?_) (fun hc3 => ?_)
      · have hc3 := BP.t hc3
        refine Tri.seq fun K12 hK12 => ?_
        refine Tri.region ?_
        refine st (OK1.as (Has.cB false)) rfl ?_
        refine nl ?_
        refine At.thn (hK12 _ _ ?_); clear hK12
        refine Tri.ret ?_
        refine At.blr ?_
        refine At.thr ?_
        refine At.thr ?_
        refine At.blr ?_
        refine At.thr ?_
        refine rt1 (.inl rfl) Try.results61 rfl (.tmp (Has.t' rfl ?_) .nil)
        all_goals (exact isB_eq (pr_false (.inl (not_prime_of_div (by omega) hc2 hc3))).symm)
      · have hc3 := BP.f hc3
        refine Tri.skip ?_
        refine At.bln ?_
        refine At.thn (hK10 _ _ ?_); clear hK10
        refine Tri.region ?_
        refine st (OK1.mv (Has.t rfl)) rfl ?_
        refine st (OK1.addU' (Has.t rfl) (Has.cU 2 rfl) (by first | omega | assumption)) rfl ?_
        refine st (OK1.as (Has.t rfl)) rfl ?_
        refine nl ?_
        refine At.thn ?_
        have hd5 := sq_lt hc2 (by omega)
        refine hK7 (⟨d + 2, by omega, by omega, by omega, noDiv_step (by omega) hd1 hd4 hc3⟩) _ _ ?_ (Cv.mem (.cons (t := 3) (Has.t' rfl ?_) (.cons (t := 0) (Has.t rfl) .nil)) ?_)
        · show 65536 - (d + 2) < 65536 - d; omega
        · rfl
        · rfl
    · have hc2 := BP.f hc2
      refine Tri.exit ?_
      refine At.the ?_
      refine At.the ?_
      refine At.blh ?_
      refine At.thn (hK5 _ _ ?_); clear hK5
      refine Tri.cv (Cv.wk .nil) ?_
      refine Tri.seq fun K13 hK13 => ?_
      refine Tri.region ?_
      refine st (OK1.as (Has.cB true)) rfl ?_
      refine nl ?_
      refine At.thn (hK13 _ _ ?_); clear hK13
      refine Tri.ret ?_
      refine rt1 (.inl rfl) Try.results61 rfl (.tmp (Has.t' rfl ?_) .nil)
      all_goals (exact isB_eq (pr_iff.2 ⟨prime_of_noDiv (by omega) hd4 hc2, by omega⟩).symm)

set_option maxHeartbeats 4000000 in
theorem gfp_New {p : Nat} : Ctr Try.prog 54 [isU p] (isTup [Flat [isU (if pr p then p else 0)], isB (pr p)]) := by
  refine Ctr.intro Try.func54 rfl (by kernel_rfl) Try.ntmps54 rfl fun w0 F0 => ?_
  refine Tri.cv (Cv.wk (.cons (t := 0) (Has.t rfl) .nil)) ?_
  refine Tri.fact (Has.ltU (Has.t (t := 0) rfl)) fun lt0 => ?_
  refine Tri.seq fun K1 hK1 => ?_
  refine Tri.region ?_
  refine Ops.alloc [isU 0] zero29 (fun _ _ => ⟨⟨rfl, by decide⟩, trivial⟩) rfl fun b1 => ?_
  refine st (OK1.as (Has.cB false)) rfl ?_
  refine nl ?_
  refine At.thn (hK1 _ _ ?_); clear hK1
  refine Tri.seq fun K2 hK2 => ?_
  refine Tri.seq fun K3 hK3 => ?_
  refine Tri.region ?_
  refine st (OK1.mv (Has.t rfl)) rfl ?_
  refine st (OK1.call (modn_Prime) (.cons (Has.t rfl) .nil)) rfl ?_
  refine st (OK1.not (Has.t rfl)) rfl ?_
  refine nl ?_
  refine At.thn (hK3 _ _ ?_); clear hK3
  refine Tri.cond (Has.t rfl) (fun hc1 => ?_) (fun hc1 => ?_)
  · have hc1 := BP.t hc1
    refine Tri.seq fun K4 hK4 => ?_
    refine Tri.region ?_
    refine st (OK1.build [isU 0] pl29 zero29 (fun _ _ => ⟨⟨rfl, by decide⟩, trivial⟩) .nil (Z'' := [_]) rfl) rfl ?_
    refine Ops.store (Has.t rfl) (Has.t rfl) (i := 0) rfl ty29 rfl rfl (Ss' := [_]) rfl (M' := [(some _, cellM [_])]) rfl ?_
    refine st (OK1.as (Has.cB false)) rfl ?_
    refine nl ?_
    refine At.thn (hK4 _ _ ?_); clear hK4
    refine Tri.ret ?_
    refine At.thr ?_
    refine rtN (.inl rfl) Try.results54 rfl rfl (.cell rfl (i := 0) rfl ty29 rfl ?_ (.tmp (Has.t' rfl ?_) .nil))
    all_goals (simp [hc1])
  · have hc1 := BP.f hc1
    refine Tri.skip ?_
    refine At.thn (hK2 _ _ ?_); clear hK2
    refine Tri.seq fun K5 hK5 => ?_
    refine Tri.region ?_
    refine st (OK1.mv (Has.t rfl)) rfl ?_
    refine st (OK1.build [isU 0] pl29 zero29 (fun _ _ => ⟨⟨rfl, by decide⟩, trivial⟩) (.cons (Has.t rfl) rfl rfl rfl .nil) (Z'' := [_]) rfl) rfl ?_
    refine Ops.store (Has.t rfl) (Has.t rfl) (i := 0) rfl ty29 rfl rfl (Ss' := [_]) rfl (M' := [(some _, cellM [_])]) rfl ?_
    refine st (OK1.as (Has.cB true)) rfl ?_
    refine nl ?_
    refine At.thn (hK5 _ _ ?_); clear hK5
    refine Tri.cv (Cv.wk (.cons (t := 2) (Has.t rfl) (.cons (t := 3) (Has.t rfl) .nil))) ?_
    refine Tri.ret ?_
    refine rtN (.inl rfl) Try.results54 rfl rfl (.cell rfl (i := 0) rfl ty29 rfl ?_ (.tmp (Has.t' rfl ?_) .nil))
    all_goals (simp [hc1])

theorem gfp_New_yes {p : Nat} (h : pr p = true) : Ctr Try.prog 54 [isU p] (isTup [Flat [isU p], isB true]) := by
  have := gfp_New (p := p); rwa [h] at this

theorem gfp_New_no {p : Nat} (h : pr p = false) : Ctr Try.prog 54 [isU p] (isTup [Flat [isU 0], isB false]) := by
  have := gfp_New (p := p); rwa [h] at this
end Go.Proofs.Ytokhpacdgoebpaa
