/- Contracts: bits of words, words of quotients. -/
import Derived.Test.YtokhpacdgoebpaaNat3
import Derived.Test.YtokhpacdgoebpaaNatD
namespace Go.Proofs.Ytokhpacdgoebpaa
open Go.En Go.RowKit
set_option linter.unusedVariables false
set_option maxRecDepth 10000
open Go.Nt
set_option maxHeartbeats 4000000 in
theorem bits_Len64 {x : Nat} : Ctr Try.prog 131 [isU x] (isI (bitLen x : Int)) := by
  refine Ctr.intro Try.func131 rfl (by kernel_rfl) Try.ntmps131 rfl fun w0 F0 => ?_
  refine Tri.cv (Cv.wk (.cons (t := 0) (Has.t rfl) .nil)) ?_
  refine Tri.fact (Has.ltU (Has.t (t := 0) rfl)) fun lt0 => ?_
  refine Tri.seq fun K1 hK1 => ?_
  refine Tri.region ?_
  refine st (OK1.as (Has.cI 0 rfl)) rfl ?_
  refine nl ?_
  refine At.thn (hK1 _ _ ?_); clear hK1
  refine Tri.cutF [] (fun (z : { z : Nat × Nat // bitLen x = z.2 + bitLen z.1 ∧ z.1 < 4294967296 ∧ z.2 ≤ 32 }) => match z with | ⟨(y, n), hI⟩ => [(0, isU y), (2, isI (n : Int))]) (fun M => fun (z : { z : Nat × Nat // bitLen x = z.2 + bitLen z.1 ∧ z.1 < 4294967296 ∧ z.2 ≤ 32 }) => match z with | ⟨(y, n), hI⟩ => M) (fun K2 hK2 => ?_) ?_
  · skip
    refine Tri.seq fun K3 hK3 => ?_
    refine Tri.region ?_
    refine st (OK1.mv (Has.t rfl)) rfl ?_
    refine st (OK1.geU (Has.t rfl) (Has.cU 4294967296 rfl)) rfl ?_
    refine nl ?_
    refine At.thn (hK3 _ _ ?_); clear hK3
    refine Tri.cond (Has.t rfl) (fun hc1 => ?_) (fun hc1 => ?_)
    · have hc1 := BP.t hc1
      refine Tri.seq fun K4 hK4 => ?_
      refine Tri.region ?_
      refine st (OK1.mv (Has.t rfl)) rfl ?_
      refine st (OK1.shrUU (Has.t rfl) (Has.cU 32 rfl) (by first | omega | assumption)) rfl ?_
      refine st (OK1.as (Has.t rfl)) rfl ?_
      refine nl ?_
      refine At.thn (hK4 _ _ ?_); clear hK4
      refine Tri.region ?_
      refine st (OK1.as (Has.cI 32 rfl)) rfl ?_
      refine nl ?_
      refine At.thn ?_
      refine hK2 (⟨(x / 2 ^ 32, 32), by have := bitLen_shift x 32 (by omega); exact this, by show x / 2 ^ 32 < _; omega, Nat.le_refl _⟩) _ _ (Cv.mem (.cons (t := 0) (Has.t' rfl ?_) (.cons (t := 2) (Has.t' rfl ?_) .nil)) ?_)
      · rfl
      · rfl
      · rfl
    · have hc1 := BP.f hc1
      refine Tri.skip ?_
      refine At.thn ?_
      refine hK2 (⟨(x, 0), (Nat.zero_add _).symm, by show x < _; omega, Nat.zero_le _⟩) _ _ (Cv.mem (.cons (t := 0) (Has.t' rfl ?_) (.cons (t := 2) (Has.t' rfl ?_) .nil)) ?_)
      · rfl
      · rfl
      · rfl
  rintro ⟨⟨y, n⟩, h1, h2, h3⟩
  refine Tri.cv (Cv.wk (.cons (t := 0) (Has.t rfl) (.cons (t := 2) (Has.t rfl) .nil))) ?_
  simp only [] at h1 h2 h3
  refine Tri.cutF [] (fun (z : { z : Nat × Nat // bitLen x = z.2 + bitLen z.1 ∧ z.1 < 65536 ∧ z.2 ≤ 48 }) => match z with | ⟨(y, n), hI⟩ => [(0, isU y), (2, isI (n : Int))]) (fun M => fun (z : { z : Nat × Nat // bitLen x = z.2 + bitLen z.1 ∧ z.1 < 65536 ∧ z.2 ≤ 48 }) => match z with | ⟨(y, n), hI⟩ => M) (fun K5 hK5 => ?_) ?_
  · skip
    refine Tri.seq fun K6 hK6 => ?_
    refine Tri.region ?_
    refine st (OK1.mv (Has.t rfl)) rfl ?_
    refine st (OK1.geU (Has.t rfl) (Has.cU 65536 rfl)) rfl ?_
    refine nl ?_
    refine At.thn (hK6 _ _ ?_); clear hK6
    refine Tri.cond (Has.t rfl) (fun hc2 => ?_) (fun hc2 => ?_)
    · have hc2 := BP.t hc2
      refine Tri.seq fun K7 hK7 => ?_
      refine Tri.region ?_
      refine st (OK1.mv (Has.t rfl)) rfl ?_
      refine st (OK1.shrUU (Has.t rfl) (Has.cU 16 rfl) (by first | omega | assumption)) rfl ?_
      refine st (OK1.as (Has.t rfl)) rfl ?_
      refine nl ?_
      refine At.thn (hK7 _ _ ?_); clear hK7
      refine Tri.region ?_
      refine st (OK1.mv (Has.t rfl)) rfl ?_
      refine st (OK1.addI (Has.t rfl) (Has.cI 16 rfl) (by first | omega | assumption) (by first | omega | assumption)) rfl ?_
      refine st (OK1.as (Has.t rfl)) rfl ?_
      refine nl ?_
      refine At.thn ?_
      refine hK5 (⟨(y / 2 ^ 16, n + 16), by have := bitLen_shift y 16 (by omega); show bitLen x = n + 16 + bitLen (y / 2 ^ 16); omega, by show y / 2 ^ 16 < _; omega, by show n + 16 ≤ _; omega⟩) _ _ (Cv.mem (.cons (t := 0) (Has.t' rfl ?_) (.cons (t := 2) (Has.t' rfl ?_) .nil)) ?_)
      · rfl
      · rfl
      · rfl
    · have hc2 := BP.f hc2
      refine Tri.skip ?_
      refine At.thn ?_
      refine hK5 (⟨(y, n), h1, by show y < _; omega, by show n ≤ _; omega⟩) _ _ (Cv.mem (.cons (t := 0) (Has.t' rfl ?_) (.cons (t := 2) (Has.t' rfl ?_) .nil)) ?_)
      · rfl
      · rfl
      · rfl
  rintro ⟨⟨y, n⟩, h1, h2, h3⟩
  refine Tri.cv (Cv.wk (.cons (t := 0) (Has.t rfl) (.cons (t := 2) (Has.t rfl) .nil))) ?_
  simp only [] at h1 h2 h3
  refine Tri.cutF [] (fun (z : { z : Nat × Nat // bitLen x = z.2 + bitLen z.1 ∧ z.1 < 256 ∧ z.2 ≤ 56 }) => match z with | ⟨(y, n), hI⟩ => [(0, isU y), (2, isI (n : Int))]) (fun M => fun (z : { z : Nat × Nat // bitLen x = z.2 + bitLen z.1 ∧ z.1 < 256 ∧ z.2 ≤ 56 }) => match z with | ⟨(y, n), hI⟩ => M) (fun K8 hK8 => ?_) ?_
  · skip
    refine Tri.seq fun K9 hK9 => ?_
    refine Tri.region ?_
    refine st (OK1.mv (Has.t rfl)) rfl ?_
    refine st (OK1.geU (Has.t rfl) (Has.cU 256 rfl)) rfl ?_
    refine nl ?_
    refine At.thn (hK9 _ _ ?_); clear hK9
    refine Tri.cond (Has.t rfl) (fun hc3 => ?_) (fun hc3 => ?_)
    · have hc3 := BP.t hc3
      refine Tri.seq fun K10 hK10 => ?_
      refine Tri.region ?_
      refine st (OK1.mv (Has.t rfl)) rfl ?_
      refine st (OK1.shrUU (Has.t rfl) (Has.cU 8 rfl) (by first | omega | assumption)) rfl ?_
      refine st (OK1.as (Has.t rfl)) rfl ?_
      refine nl ?_
      refine At.thn (hK10 _ _ ?_); clear hK10
      refine Tri.region ?_
      refine st (OK1.mv (Has.t rfl)) rfl ?_
      refine st (OK1.addI (Has.t rfl) (Has.cI 8 rfl) (by first | omega | assumption) (by first | omega | assumption)) rfl ?_
      refine st (OK1.as (Has.t rfl)) rfl ?_
      refine nl ?_
      refine At.thn ?_
      refine hK8 (⟨(y / 2 ^ 8, n + 8), by have := bitLen_shift y 8 (by omega); show bitLen x = n + 8 + bitLen (y / 2 ^ 8); omega, by show y / 2 ^ 8 < _; omega, by show n + 8 ≤ _; omega⟩) _ _ (Cv.mem (.cons (t := 0) (Has.t' rfl ?_) (.cons (t := 2) (Has.t' rfl ?_) .nil)) ?_)
      · rfl
      · rfl
      · rfl
    · have hc3 := BP.f hc3
      refine Tri.skip ?_
      refine At.thn ?_
      refine hK8 (⟨(y, n), h1, by show y < _; omega, by show n ≤ _; omega⟩) _ _ (Cv.mem (.cons (t := 0) (Has.t' rfl ?_) (.cons (t := 2) (Has.t' rfl ?_) .nil)) ?_)
      · rfl
      · rfl
      · rfl
  rintro ⟨⟨y, n⟩, h1, h2, h3⟩
  refine Tri.cv (Cv.wk (.cons (t := 0) (Has.t rfl) (.cons (t := 2) (Has.t rfl) .nil))) ?_
  simp only [] at h1 h2 h3
  have h8 := bitLen_le8 y h2
  have hy : Int.toNat (y : Int) = y := rfl
  refine Tri.seq fun K11 hK11 => ?_
  refine Tri.region ?_
  refine st (OK1.mv (Has.t rfl)) rfl ?_
  refine st (OK1.mv (Has.t rfl)) rfl ?_
  refine st (OK1.convUu8 un27 un5 (Has.t rfl) (by first | omega | assumption)) rfl ?_
  refine st (OK1.eq (OK1.idxStr un9 (Has.t rfl) (by omega) ⟨(show Int.toNat (y : Int) < 256 by omega), len8tab_get _ _⟩) ((show isK .u8 _ = isK .u8 ((bitLen y : Nat) : Int) from rfl))) rfl ?_
  refine st (OK1.convKI un5 un3 (Has.t rfl) (by first | omega | assumption) (by first | omega | assumption)) rfl ?_
  refine st (OK1.addI (Has.t rfl) (Has.t rfl) (by first | omega | assumption) (by first | omega | assumption)) rfl ?_
  refine st (OK1.as (Has.t rfl)) rfl ?_
  refine nl ?_
  refine At.thn (hK11 _ _ ?_); clear hK11
  refine Tri.cv (Cv.wk (.cons (t := 2) (Has.t rfl) .nil)) ?_
  refine Tri.ret ?_
  refine rt1 (.inl rfl) Try.results131 rfl (.tmp (Has.t' rfl ?_) .nil)
  all_goals (exact isI_eq (by omega))

set_option maxHeartbeats 4000000 in
theorem bits_LZ64 {x : Nat} : Ctr Try.prog 172 [isU x] (isI ((64 - bitLen x : Nat) : Int)) := by
  refine Ctr.intro Try.func172 rfl (by kernel_rfl) Try.ntmps172 rfl fun w0 F0 => ?_
  refine Tri.cv (Cv.wk (.cons (t := 0) (Has.t rfl) .nil)) ?_
  refine Tri.fact (Has.ltU (Has.t (t := 0) rfl)) fun lt0 => ?_
  have h64 := bitLen_le64 lt0
  refine Tri.seq fun K1 hK1 => ?_
  refine Tri.region ?_
  refine st (OK1.as (Has.cI 0 rfl)) rfl ?_
  refine nl ?_
  refine At.thn (hK1 _ _ ?_); clear hK1
  refine Tri.seq fun K2 hK2 => ?_
  refine Tri.region ?_
  refine st (OK1.mv (Has.t rfl)) rfl ?_
  refine st (OK1.call (bits_Len64) (.cons (Has.t rfl) .nil)) rfl ?_
  refine st (OK1.subI (Has.cI 64 rfl) (Has.t rfl) (by first | omega | assumption) (by first | omega | assumption)) rfl ?_
  refine st (OK1.as (Has.t rfl)) rfl ?_
  refine nl ?_
  refine At.thn (hK2 _ _ ?_); clear hK2
  refine Tri.ret ?_
  refine rt1 (.inl rfl) Try.results172 rfl (.tmp (Has.t' rfl ?_) .nil)
  all_goals (exact isI_eq (by omega))

set_option maxHeartbeats 4000000 in
theorem bits_Div64 {hi lo y : Nat} (h : hi < y) : Ctr Try.prog 181 [isU hi, isU lo, isU y] (isTup [isU ((hi * 18446744073709551616 + lo) / y), isU ((hi * 18446744073709551616 + lo) % y)]) := by
  refine Ctr.intro Try.func181 rfl (by kernel_rfl) Try.ntmps181 rfl fun w0 F0 => ?_
  refine Tri.cv (Cv.wk (.cons (t := 0) (Has.t rfl) (.cons (t := 1) (Has.t rfl) (.cons (t := 2) (Has.t rfl) .nil)))) ?_
  refine Tri.fact (Has.ltU (Has.t (t := 0) rfl)) fun lt0 => ?_
  refine Tri.fact (Has.ltU (Has.t (t := 1) rfl)) fun lt1 => ?_
  refine Tri.fact (Has.ltU (Has.t (t := 2) rfl)) fun lt2 => ?_
  obtain ⟨s, Y, A, U1, U0, v1, v0, hs, hY, D⟩ := d64 lt1 lt2 h
  have hs64 := D.ks
  have hYl := D.yl
  have hAl := D.al
  have hV1 := D.hv.a
  have hV1' := D.hv.b
  have hV0 := D.hv.c
  have hU1 := D.hv.f
  have hU0 := D.hv2.f
  have hR1 := D.r1
  have hR0 := D.r0
  have hQ1 := D.q1
  have hQ0 := D.q0
  have dv := Nat.div_mul_le_self A v1
  have dv2 := Nat.div_mul_le_self ((A * 4294967296 + U1) % Y) v1
  refine Tri.seq fun K1 hK1 => ?_
  refine Tri.region ?_
  refine st (OK1.as (Has.cU 0 rfl)) rfl ?_
  refine st (OK1.as (Has.cU 0 rfl)) rfl ?_
  refine nl ?_
  refine At.thn (hK1 _ _ ?_); clear hK1
  refine Tri.seq fun K2 hK2 => ?_
  refine Tri.seq fun K3 hK3 => ?_
  refine Tri.region ?_
  refine st (OK1.mv (Has.t rfl)) rfl ?_
  refine st (OK1.eqU (Has.t rfl) (Has.cU 0 rfl)) rfl ?_
  refine nl ?_
  refine At.thn (hK3 _ _ ?_); clear hK3
  refine Tri.cond (Has.t rfl) (fun hc1 => ?_) (fun hc1 => ?_)
  · have hc1 := BP.t hc1
    exfalso; first | omega | contradiction | (revert hc1; simp)
  · have hc1 := BP.f hc1
    refine Tri.skip ?_
    refine At.thn (hK2 _ _ ?_); clear hK2
    refine Tri.seq fun K4 hK4 => ?_
    refine Tri.seq fun K5 hK5 => ?_
    refine Tri.region ?_
    refine st (OK1.mv (Has.t rfl)) rfl ?_
    refine st (OK1.mv (Has.t rfl)) rfl ?_
    refine st (OK1.leU (Has.t rfl) (Has.t rfl)) rfl ?_
    refine nl ?_
    refine At.thn (hK5 _ _ ?_); clear hK5
    refine Tri.cond (Has.t rfl) (fun hc2 => ?_) (fun hc2 => ?_)
    · have hc2 := BP.t hc2
      exfalso; first | omega | contradiction | (revert hc2; simp)
    · have hc2 := BP.f hc2
      refine Tri.skip ?_
      refine At.thn (hK4 _ _ ?_); clear hK4
      refine Tri.cv (Cv.wk (.cons (t := 0) (Has.t rfl) (.cons (t := 1) (Has.t rfl) (.cons (t := 2) (Has.t rfl) (.cons (t := 6) (Has.t rfl) (.cons (t := 7) (Has.t rfl) .nil)))))) ?_
      refine Tri.seq fun K6 hK6 => ?_
      refine Tri.seq fun K7 hK7 => ?_
      refine Tri.region ?_
      refine st (OK1.mv (Has.t rfl)) rfl ?_
      refine st (OK1.eqU (Has.t rfl) (Has.cU 0 rfl)) rfl ?_
      refine nl ?_
      refine At.thn (hK7 _ _ ?_); clear hK7
      refine Tri.cond (Has.t rfl) (fun hc3 => ?_) (fun hc3 => ?_)
      · have hc3 := BP.t hc3
        refine Tri.seq fun K8 hK8 => ?_
        refine Tri.cv (Cv.wk (.cons (t := 0) (Has.t rfl) (.cons (t := 1) (Has.t rfl) (.cons (t := 2) (Has.t rfl) (.cons (t := 7) (Has.t rfl) (.cons (t := 26) (Has.t rfl) (.cons (t := 27) (Has.t rfl) .nil))))))) ?_
        refine Tri.dr ?_
        refine DrG.st (i := 0) [] rfl rfl rfl (by kernel_rfl) (OKG.o rfl (OK1.mv (Has.t rfl))) ?_
        refine DrG.st (i := 1) [] rfl rfl rfl (by kernel_rfl) (OKG.o rfl (OK1.mv (Has.t rfl))) ?_
        refine DrG.st (i := 2) [28, 29] rfl rfl rfl (by kernel_rfl) (OKG.o rfl (OK1.quoU (Has.t rfl) (Has.t rfl) (by first | with_reducible exact True.intro | with_reducible assumption | with_reducible exact Nat.div_mul_le_self _ _ | with_reducible exact Nat.lt_of_le_of_lt (Nat.div_mul_le_self _ _) hR1 | omega | exact mul_bb (by omega) (by omega)) (by first | with_reducible exact True.intro | with_reducible assumption | with_reducible exact Nat.div_mul_le_self _ _ | with_reducible exact Nat.lt_of_le_of_lt (Nat.div_mul_le_self _ _) hR1 | omega | exact mul_bb (by omega) (by omega)))) ?_
        refine DrG.st (i := 3) [] rfl rfl rfl (by kernel_rfl) (OKG.o rfl (OK1.mv (Has.t rfl))) ?_
        refine DrG.st (i := 4) [] rfl rfl rfl (by kernel_rfl) (OKG.o rfl (OK1.mv (Has.t rfl))) ?_
        refine DrG.st (i := 5) [31, 32] rfl rfl rfl (by kernel_rfl) (OKG.o rfl (OK1.remU (Has.t rfl) (Has.t rfl) (by first | with_reducible exact True.intro | with_reducible assumption | with_reducible exact Nat.div_mul_le_self _ _ | with_reducible exact Nat.lt_of_le_of_lt (Nat.div_mul_le_self _ _) hR1 | omega | exact mul_bb (by omega) (by omega)) (by first | with_reducible exact True.intro | with_reducible assumption | with_reducible exact Nat.div_mul_le_self _ _ | with_reducible exact Nat.lt_of_le_of_lt (Nat.div_mul_le_self _ _) hR1 | omega | exact mul_bb (by omega) (by omega)))) ?_
        refine DrG.st (i := 6) [30] rfl rfl rfl (by kernel_rfl) (OKG.o rfl (OK1.as (Has.t rfl))) ?_
        refine DrG.fin (n := 7) mixed (by kernel_rfl) (by kernel_rfl) (by kernel_rfl) ?_
        refine Ops.cv (Cv.wk (.cons (t := 0) (Has.t rfl) (.cons (t := 1) (Has.t rfl) (.cons (t := 2) (Has.t rfl) (.cons (t := 7) (Has.t rfl) (.cons (t := 33) (Has.t rfl) (.cons (t := 6) (Has.t rfl) .nil))))))) ?_
        refine st (OK1.as (Has.t rfl)) rfl ?_
        refine nl ?_
        refine At.thn (hK8 _ _ ?_); clear hK8
        refine Tri.ret ?_
        refine At.thr ?_
        refine rtN (.inl rfl) Try.results181 rfl rfl (.tmp (Has.t' rfl ?_) (.tmp (Has.t' rfl ?_) .nil))
        · exact isU_eq (by rw [hc3, Nat.zero_mul, Nat.zero_add])
        · exact isU_eq (by rw [hc3, Nat.zero_mul, Nat.zero_add])
      · have hc3 := BP.f hc3
        refine Tri.skip ?_
        refine At.thn (hK6 _ _ ?_); clear hK6
        refine Tri.seq fun K9 hK9 => ?_
        refine Tri.region ?_
        refine st (OK1.mv (Has.t rfl)) rfl ?_
        refine st (OK1.call (bits_LZ64) (.cons (Has.t rfl) .nil)) rfl ?_
        refine st (OK1.eq (OK1.convIU un3 un164 (Has.t rfl) (by first | with_reducible exact True.intro | with_reducible assumption | with_reducible exact Nat.div_mul_le_self _ _ | with_reducible exact Nat.lt_of_le_of_lt (Nat.div_mul_le_self _ _) hR1 | omega | exact mul_bb (by omega) (by omega)) (by first | with_reducible exact True.intro | with_reducible assumption | with_reducible exact Nat.div_mul_le_self _ _ | with_reducible exact Nat.lt_of_le_of_lt (Nat.div_mul_le_self _ _) hR1 | omega | exact mul_bb (by omega) (by omega))) ((show isU _ = isU s from isU_eq (by omega)))) rfl ?_
        refine st (OK1.as (Has.t rfl)) rfl ?_
        refine nl ?_
        refine At.thn (hK9 _ _ ?_); clear hK9
        refine Tri.cv (Cv.wk (.cons (t := 0) (Has.t rfl) (.cons (t := 1) (Has.t rfl) (.cons (t := 2) (Has.t rfl) (.cons (t := 6) (Has.t rfl) (.cons (t := 7) (Has.t rfl) (.cons (t := 8) (Has.t rfl) .nil))))))) ?_
        refine Tri.seq fun K10 hK10 => ?_
        refine Tri.region ?_
        refine st (OK1.mv (Has.t rfl)) rfl ?_
        refine st (OK1.mv (Has.t rfl)) rfl ?_
        refine st (OK1.eq (OK1.shlUU (Has.t rfl) (Has.t rfl) (by first | with_reducible exact True.intro | with_reducible assumption | with_reducible exact Nat.div_mul_le_self _ _ | with_reducible exact Nat.lt_of_le_of_lt (Nat.div_mul_le_self _ _) hR1 | omega | exact mul_bb (by omega) (by omega))) ((show isU _ = isU Y from isU_eq (by rw [← hY]; exact Nat.mod_eq_of_lt D.yl)))) rfl ?_
        refine st (OK1.as (Has.t rfl)) rfl ?_
        refine nl ?_
        refine At.thn (hK10 _ _ ?_); clear hK10
        refine Tri.seq fun K11 hK11 => ?_
        refine Tri.region ?_
        refine st (OK1.mv (Has.t rfl)) rfl ?_
        refine st (OK1.eq (OK1.shrUU (Has.t rfl) (Has.cU 32 rfl) (by first | with_reducible exact True.intro | with_reducible assumption | with_reducible exact Nat.div_mul_le_self _ _ | with_reducible exact Nat.lt_of_le_of_lt (Nat.div_mul_le_self _ _) hR1 | omega | exact mul_bb (by omega) (by omega))) ((show isU _ = isU v1 from isU_eq (by have := D.kv1; omega)))) rfl ?_
        refine st (OK1.as (Has.t rfl)) rfl ?_
        refine nl ?_
        refine At.thn (hK11 _ _ ?_); clear hK11
        refine Tri.cv (Cv.wk (.cons (t := 0) (Has.t rfl) (.cons (t := 1) (Has.t rfl) (.cons (t := 2) (Has.t rfl) (.cons (t := 6) (Has.t rfl) (.cons (t := 7) (Has.t rfl) (.cons (t := 8) (Has.t rfl) (.cons (t := 9) (Has.t rfl) .nil)))))))) ?_
        refine Tri.seq fun K12 hK12 => ?_
        refine Tri.region ?_
        refine st (OK1.mv (Has.t rfl)) rfl ?_
        refine st (OK1.eq (OK1.andU (Has.t rfl) (Has.cU 4294967295 rfl)) ((show isU _ = isU v0 from isU_eq ((Nat.and_two_pow_sub_one_eq_mod _ 32).trans (by have := D.kv0; omega))))) rfl ?_
        refine st (OK1.as (Has.t rfl)) rfl ?_
        refine nl ?_
        refine At.thn (hK12 _ _ ?_); clear hK12
        refine Tri.seq fun K13 hK13 => ?_
        refine Tri.region ?_
        refine st (OK1.mv (Has.t rfl)) rfl ?_
        refine st (OK1.mv (Has.t rfl)) rfl ?_
        refine st (OK1.shlUU (Has.t rfl) (Has.t rfl) (by first | with_reducible exact True.intro | with_reducible assumption | with_reducible exact Nat.div_mul_le_self _ _ | with_reducible exact Nat.lt_of_le_of_lt (Nat.div_mul_le_self _ _) hR1 | omega | exact mul_bb (by omega) (by omega))) rfl ?_
        refine st (OK1.mv (Has.t rfl)) rfl ?_
        refine st (OK1.mv (Has.t rfl)) rfl ?_
        refine st (OK1.subU' (Has.cU 64 rfl) (Has.t rfl) (by first | with_reducible exact True.intro | with_reducible assumption | with_reducible exact Nat.div_mul_le_self _ _ | with_reducible exact Nat.lt_of_le_of_lt (Nat.div_mul_le_self _ _) hR1 | omega | exact mul_bb (by omega) (by omega)) (by first | with_reducible exact True.intro | with_reducible assumption | with_reducible exact Nat.div_mul_le_self _ _ | with_reducible exact Nat.lt_of_le_of_lt (Nat.div_mul_le_self _ _) hR1 | omega | exact mul_bb (by omega) (by omega))) rfl ?_
        refine st (OK1.shrUU (Has.t rfl) (Has.t rfl) (by first | with_reducible exact True.intro | with_reducible assumption | with_reducible exact Nat.div_mul_le_self _ _ | with_reducible exact Nat.lt_of_le_of_lt (Nat.div_mul_le_self _ _) hR1 | omega | exact mul_bb (by omega) (by omega))) rfl ?_
        refine st (OK1.eq (OK1.orU (Has.t rfl) (Has.t rfl)) ((show isU _ = isU A from isU_eq D.un32))) rfl ?_
        refine st (OK1.as (Has.t rfl)) rfl ?_
        refine nl ?_
        refine At.thn (hK13 _ _ ?_); clear hK13
        refine Tri.cv (Cv.wk (.cons (t := 1) (Has.t rfl) (.cons (t := 2) (Has.t rfl) (.cons (t := 6) (Has.t rfl) (.cons (t := 7) (Has.t rfl) (.cons (t := 8) (Has.t rfl) (.cons (t := 9) (Has.t rfl) (.cons (t := 10) (Has.t rfl) (.cons (t := 11) (Has.t rfl) .nil))))))))) ?_
        refine Tri.seq fun K14 hK14 => ?_
        refine Tri.region ?_
        refine st (OK1.mv (Has.t rfl)) rfl ?_
        refine st (OK1.mv (Has.t rfl)) rfl ?_
        refine st (OK1.shlUU (Has.t rfl) (Has.t rfl) (by first | with_reducible exact True.intro | with_reducible assumption | with_reducible exact Nat.div_mul_le_self _ _ | with_reducible exact Nat.lt_of_le_of_lt (Nat.div_mul_le_self _ _) hR1 | omega | exact mul_bb (by omega) (by omega))) rfl ?_
        refine st (OK1.as (Has.t rfl)) rfl ?_
        refine nl ?_
        refine At.thn (hK14 _ _ ?_); clear hK14
        refine Tri.seq fun K15 hK15 => ?_
        refine Tri.region ?_
        refine st (OK1.mv (Has.t rfl)) rfl ?_
        refine st (OK1.eq (OK1.shrUU (Has.t rfl) (Has.cU 32 rfl) (by first | with_reducible exact True.intro | with_reducible assumption | with_reducible exact Nat.div_mul_le_self _ _ | with_reducible exact Nat.lt_of_le_of_lt (Nat.div_mul_le_self _ _) hR1 | omega | exact mul_bb (by omega) (by omega))) ((show isU _ = isU U1 from isU_eq (by have := D.u1; omega)))) rfl ?_
        refine st (OK1.as (Has.t rfl)) rfl ?_
        refine nl ?_
        refine At.thn (hK15 _ _ ?_); clear hK15
        refine Tri.cv (Cv.wk (.cons (t := 2) (Has.t rfl) (.cons (t := 6) (Has.t rfl) (.cons (t := 7) (Has.t rfl) (.cons (t := 8) (Has.t rfl) (.cons (t := 9) (Has.t rfl) (.cons (t := 10) (Has.t rfl) (.cons (t := 11) (Has.t rfl) (.cons (t := 12) (Has.t rfl) (.cons (t := 13) (Has.t rfl) .nil)))))))))) ?_
        refine Tri.seq fun K16 hK16 => ?_
        refine Tri.region ?_
        refine st (OK1.mv (Has.t rfl)) rfl ?_
        refine st (OK1.eq (OK1.andU (Has.t rfl) (Has.cU 4294967295 rfl)) ((show isU _ = isU U0 from isU_eq ((Nat.and_two_pow_sub_one_eq_mod _ 32).trans (by have := D.u0; omega))))) rfl ?_
        refine st (OK1.as (Has.t rfl)) rfl ?_
        refine nl ?_
        refine At.thn (hK16 _ _ ?_); clear hK16
        refine Tri.seq fun K17 hK17 => ?_
        refine Tri.region ?_
        refine st (OK1.mv (Has.t rfl)) rfl ?_
        refine st (OK1.mv (Has.t rfl)) rfl ?_
        refine st (OK1.quoU (Has.t rfl) (Has.t rfl) (by first | with_reducible exact True.intro | with_reducible assumption | with_reducible exact Nat.div_mul_le_self _ _ | with_reducible exact Nat.lt_of_le_of_lt (Nat.div_mul_le_self _ _) hR1 | omega | exact mul_bb (by omega) (by omega)) (by first | with_reducible exact True.intro | with_reducible assumption | with_reducible exact Nat.div_mul_le_self _ _ | with_reducible exact Nat.lt_of_le_of_lt (Nat.div_mul_le_self _ _) hR1 | omega | exact mul_bb (by omega) (by omega))) rfl ?_
        refine st (OK1.as (Has.t rfl)) rfl ?_
        refine nl ?_
        refine At.thn (hK17 _ _ ?_); clear hK17
        refine Tri.cv (Cv.wk (.cons (t := 2) (Has.t rfl) (.cons (t := 6) (Has.t rfl) (.cons (t := 7) (Has.t rfl) (.cons (t := 8) (Has.t rfl) (.cons (t := 9) (Has.t rfl) (.cons (t := 10) (Has.t rfl) (.cons (t := 11) (Has.t rfl) (.cons (t := 13) (Has.t rfl) (.cons (t := 14) (Has.t rfl) (.cons (t := 15) (Has.t rfl) .nil))))))))))) ?_
        refine Tri.seq fun K18 hK18 => ?_
        refine Tri.region ?_
        refine st (OK1.mv (Has.t rfl)) rfl ?_
        refine st (OK1.mv (Has.t rfl)) rfl ?_
        refine st (OK1.mv (Has.t rfl)) rfl ?_
        refine st (OK1.mulU' (Has.t rfl) (Has.t rfl) (by first | with_reducible exact True.intro | with_reducible assumption | with_reducible exact Nat.div_mul_le_self _ _ | with_reducible exact Nat.lt_of_le_of_lt (Nat.div_mul_le_self _ _) hR1 | omega | exact mul_bb (by omega) (by omega))) rfl ?_
        refine st (OK1.subU' (Has.t rfl) (Has.t rfl) (by first | with_reducible exact True.intro | with_reducible assumption | with_reducible exact Nat.div_mul_le_self _ _ | with_reducible exact Nat.lt_of_le_of_lt (Nat.div_mul_le_self _ _) hR1 | omega | exact mul_bb (by omega) (by omega)) (by first | with_reducible exact True.intro | with_reducible assumption | with_reducible exact Nat.div_mul_le_self _ _ | with_reducible exact Nat.lt_of_le_of_lt (Nat.div_mul_le_self _ _) hR1 | omega | exact mul_bb (by omega) (by omega))) rfl ?_
        refine st (OK1.as (Has.t rfl)) rfl ?_
        refine nl ?_
        refine At.thn (hK18 _ _ ?_); clear hK18
        refine Tri.cv (Cv.wk (.cons (t := 2) (Has.t rfl) (.cons (t := 6) (Has.t rfl) (.cons (t := 7) (Has.t rfl) (.cons (t := 8) (Has.t rfl) (.cons (t := 9) (Has.t rfl) (.cons (t := 10) (Has.t rfl) (.cons (t := 11) (Has.t rfl) (.cons (t := 13) (Has.t rfl) (.cons (t := 14) (Has.t rfl) (.cons (t := 15) (Has.t rfl) (.cons (t := 16) (Has.t rfl) .nil)))))))))))) ?_
        refine Tri.cutF [2, 6, 7, 8, 9, 10, 11, 13, 14] (fun (_ : Unit) => [(15, isU ((A * 4294967296 + U1) / Y))]) (fun M => fun (_ : Unit) => M) (fun K19 hK19 => ?_) ?_
        · skip
          refine Tri.block ?_
          refine Tri.loopF [2, 6, 7, 8, 9, 10, 11, 13, 14] (fun (z : { z : Nat × Nat // Gs A U1 v1 v0 z.1 z.2 }) => match z with | ⟨(q, r), hI⟩ => [(15, isU q), (16, isU r)]) (fun M => fun (z : { z : Nat × Nat // Gs A U1 v1 v0 z.1 z.2 }) => match z with | ⟨(q, r), hI⟩ => M) (fun (z : { z : Nat × Nat // Gs A U1 v1 v0 z.1 z.2 }) => match z with | ⟨(q, r), hI⟩ => q) (⟨(A / v1, A - A / v1 * v1), Gs.start D.hv⟩) (Cv.mem (.cons (t := 15) (Has.t' rfl ?_) (.cons (t := 16) (Has.t' rfl ?_) (.cons (t := 2) (Has.t rfl) (.cons (t := 6) (Has.t rfl) (.cons (t := 7) (Has.t rfl) (.cons (t := 8) (Has.t rfl) (.cons (t := 9) (Has.t rfl) (.cons (t := 10) (Has.t rfl) (.cons (t := 11) (Has.t rfl) (.cons (t := 13) (Has.t rfl) (.cons (t := 14) (Has.t rfl) .nil))))))))))) ?_) ?_
          · rfl
          · rfl
          · rfl
          rintro ⟨⟨q, r⟩, g⟩ K20 hK20
          refine Tri.cv (Cv.wk (.cons (t := 15) (Has.t rfl) (.cons (t := 16) (Has.t rfl) (.cons (t := 2) (Has.t rfl) (.cons (t := 6) (Has.t rfl) (.cons (t := 7) (Has.t rfl) (.cons (t := 8) (Has.t rfl) (.cons (t := 9) (Has.t rfl) (.cons (t := 10) (Has.t rfl) (.cons (t := 11) (Has.t rfl) (.cons (t := 13) (Has.t rfl) (.cons (t := 14) (Has.t rfl) .nil)))))))))))) ?_
          simp only [] at g
          have gq := g.q
          have gr := g.r
          have hv0 := D.hv.c
          have hv1 := D.hv.b
          have hu1 := D.hv.f
          refine Tri.seq fun K21 hK21 => ?_
          refine Tri.seq fun K22 hK22 => ?_
          refine Tri.region ?_
          refine st (OK1.mv (Has.t rfl)) rfl ?_
          refine st (OK1.geU (Has.t rfl) (Has.cU 4294967296 rfl)) rfl ?_
          refine st (OK1.mv (Has.t rfl)) rfl ?_
          refine stF rfl rfl (fun hg => have hg' := BP.t hg; OK1.mv (Has.t rfl)) rfl ?_
          refine stF rfl rfl (fun hg => have hg' := BP.t hg; OK1.mv (Has.t rfl)) rfl ?_
          refine stF rfl rfl (fun hg => have hg' := BP.t hg; OK1.mulU' (Has.g rfl hg) (Has.g rfl hg) (by first | with_reducible exact True.intro | with_reducible assumption | with_reducible exact Nat.div_mul_le_self _ _ | with_reducible exact Nat.lt_of_le_of_lt (Nat.div_mul_le_self _ _) hR1 | omega | exact mul_bb (by omega) (by omega))) rfl ?_
          refine stF rfl rfl (fun hg => have hg' := BP.t hg; OK1.mv (Has.t rfl)) rfl ?_
          refine stF rfl rfl (fun hg => have hg' := BP.t hg; OK1.mulU' (Has.cU 4294967296 rfl) (Has.g rfl hg) (by first | with_reducible exact True.intro | with_reducible assumption | with_reducible exact Nat.div_mul_le_self _ _ | with_reducible exact Nat.lt_of_le_of_lt (Nat.div_mul_le_self _ _) hR1 | omega | exact mul_bb (by omega) (by omega))) rfl ?_
          refine stF rfl rfl (fun hg => have hg' := BP.t hg; OK1.mv (Has.t rfl)) rfl ?_
          refine stF rfl rfl (fun hg => have hg' := BP.t hg; OK1.addU' (Has.g rfl hg) (Has.g rfl hg) (by first | with_reducible exact True.intro | with_reducible assumption | with_reducible exact Nat.div_mul_le_self _ _ | with_reducible exact Nat.lt_of_le_of_lt (Nat.div_mul_le_self _ _) hR1 | omega | exact mul_bb (by omega) (by omega))) rfl ?_
          refine stF rfl rfl (fun hg => have hg' := BP.t hg; OK1.gtU (Has.g rfl hg) (Has.g rfl hg)) rfl ?_
          refine st (OK1.pickOr (Has.t rfl) (fun h => Has.g rfl (ng h))) rfl ?_
          refine nl ?_
          refine At.thn (hK22 _ _ ?_); clear hK22
          refine Tri.cond (Has.t rfl) (fun hc4 => ?_) (fun hc4 => ?_)
          · have hc4 := BP.t hc4
            have hn := Gs.next D.hv g hc4
            refine Tri.skip ?_
            refine At.thn (hK21 _ _ ?_); clear hK21
            refine Tri.block ?_
            refine Tri.seq fun K23 hK23 => ?_
            refine Tri.region ?_
            refine st (OK1.mv (Has.t rfl)) rfl ?_
            refine st (OK1.subU' (Has.t rfl) (Has.cU 1 rfl) (by first | with_reducible exact True.intro | with_reducible assumption | with_reducible exact Nat.div_mul_le_self _ _ | with_reducible exact Nat.lt_of_le_of_lt (Nat.div_mul_le_self _ _) hR1 | omega | exact mul_bb (by omega) (by omega)) (by first | with_reducible exact True.intro | with_reducible assumption | with_reducible exact Nat.div_mul_le_self _ _ | with_reducible exact Nat.lt_of_le_of_lt (Nat.div_mul_le_self _ _) hR1 | omega | exact mul_bb (by omega) (by omega))) rfl ?_
            refine st (OK1.as (Has.t rfl)) rfl ?_
            refine nl ?_
            refine At.thn (hK23 _ _ ?_); clear hK23
            refine Tri.seq fun K24 hK24 => ?_
            refine Tri.region ?_
            refine st (OK1.mv (Has.t rfl)) rfl ?_
            refine st (OK1.mv (Has.t rfl)) rfl ?_
            refine st (OK1.addU' (Has.t rfl) (Has.t rfl) (by first | with_reducible exact True.intro | with_reducible assumption | with_reducible exact Nat.div_mul_le_self _ _ | with_reducible exact Nat.lt_of_le_of_lt (Nat.div_mul_le_self _ _) hR1 | omega | exact mul_bb (by omega) (by omega))) rfl ?_
            refine st (OK1.as (Has.t rfl)) rfl ?_
            refine nl ?_
            refine At.thn (hK24 _ _ ?_); clear hK24
            refine Tri.seq fun K25 hK25 => ?_
            refine Tri.region ?_
            refine st (OK1.mv (Has.t rfl)) rfl ?_
            refine st (OK1.geU (Has.t rfl) (Has.cU 4294967296 rfl)) rfl ?_
            refine nl ?_
            refine At.thn (hK25 _ _ ?_); clear hK25
            refine Tri.cond (Has.t rfl) (fun hc5 => ?_) (fun hc5 => ?_)
            · have hc5 := BP.t hc5
              refine Tri.exit ?_
              refine At.blm rfl ?_
              refine At.the ?_
              refine At.blh ?_
              refine At.thn ?_
              refine hK19 (()) _ _ (Cv.mem (.cons (t := 15) (Has.t' rfl ?_) (.cons (t := 2) (Has.t rfl) (.cons (t := 6) (Has.t rfl) (.cons (t := 7) (Has.t rfl) (.cons (t := 8) (Has.t rfl) (.cons (t := 9) (Has.t rfl) (.cons (t := 10) (Has.t rfl) (.cons (t := 11) (Has.t rfl) (.cons (t := 13) (Has.t rfl) (.cons (t := 14) (Has.t rfl) .nil)))))))))) ?_)
              · exact isU_eq ((Gs.exit2 D.hv hn.1 hn.2.1 hn.2.2.1 (by omega)).trans (by rw [D.kY]))
              · rfl
            · have hc5 := BP.f hc5
              refine Tri.skip ?_
              refine At.bln ?_
              refine At.thn ?_
              refine hK20 (⟨(q - 1, r + v1), hn.1, hn.2.1, by show q - 1 ≤ _; omega, by show r + v1 < _; omega⟩) _ _ ?_ (Cv.mem (.cons (t := 15) (Has.t' rfl ?_) (.cons (t := 16) (Has.t' rfl ?_) (.cons (t := 2) (Has.t rfl) (.cons (t := 6) (Has.t rfl) (.cons (t := 7) (Has.t rfl) (.cons (t := 8) (Has.t rfl) (.cons (t := 9) (Has.t rfl) (.cons (t := 10) (Has.t rfl) (.cons (t := 11) (Has.t rfl) (.cons (t := 13) (Has.t rfl) (.cons (t := 14) (Has.t rfl) .nil))))))))))) ?_)
              · show q - 1 < q; omega
              · rfl
              · rfl
              · rfl
          · have hc4 := BP.f hc4
            refine Tri.exit ?_
            refine At.the ?_
            refine At.the ?_
            refine At.blh ?_
            refine At.thn ?_
            refine hK19 (()) _ _ (Cv.mem (.cons (t := 15) (Has.t' rfl ?_) (.cons (t := 2) (Has.t rfl) (.cons (t := 6) (Has.t rfl) (.cons (t := 7) (Has.t rfl) (.cons (t := 8) (Has.t rfl) (.cons (t := 9) (Has.t rfl) (.cons (t := 10) (Has.t rfl) (.cons (t := 11) (Has.t rfl) (.cons (t := 13) (Has.t rfl) (.cons (t := 14) (Has.t rfl) .nil)))))))))) ?_)
            · exact isU_eq ((Gs.exit D.hv g (by omega)).trans (by rw [D.kY]))
            · rfl
        rintro _
        refine Tri.cv (Cv.wk (.cons (t := 15) (Has.t rfl) (.cons (t := 2) (Has.t rfl) (.cons (t := 6) (Has.t rfl) (.cons (t := 7) (Has.t rfl) (.cons (t := 8) (Has.t rfl) (.cons (t := 9) (Has.t rfl) (.cons (t := 10) (Has.t rfl) (.cons (t := 11) (Has.t rfl) (.cons (t := 13) (Has.t rfl) (.cons (t := 14) (Has.t rfl) .nil))))))))))) ?_
        refine Tri.seq fun K26 hK26 => ?_
        refine Tri.region ?_
        refine st (OK1.mv (Has.t rfl)) rfl ?_
        refine st (OK1.mulU (Has.t rfl) (Has.cU 4294967296 rfl)) rfl ?_
        refine st (OK1.mv (Has.t rfl)) rfl ?_
        refine st (OK1.addU (Has.t rfl) (Has.t rfl)) rfl ?_
        refine st (OK1.mv (Has.t rfl)) rfl ?_
        refine st (OK1.mv (Has.t rfl)) rfl ?_
        refine st (OK1.mulU (Has.t rfl) (Has.t rfl)) rfl ?_
        refine st (OK1.eq (OK1.subU (Has.t rfl) (Has.t rfl) (by first | with_reducible exact True.intro | with_reducible assumption | with_reducible exact Nat.div_mul_le_self _ _ | with_reducible exact Nat.lt_of_le_of_lt (Nat.div_mul_le_self _ _) hR1 | omega | exact mul_bb (by omega) (by omega))) ((show isU _ = isU ((A * 4294967296 + U1) % Y) from isU_eq (wrapSub (divMul _ _) hR1 hU1)))) rfl ?_
        refine st (OK1.as (Has.t rfl)) rfl ?_
        refine nl ?_
        refine At.thn (hK26 _ _ ?_); clear hK26
        refine Tri.cv (Cv.wk (.cons (t := 2) (Has.t rfl) (.cons (t := 6) (Has.t rfl) (.cons (t := 7) (Has.t rfl) (.cons (t := 8) (Has.t rfl) (.cons (t := 9) (Has.t rfl) (.cons (t := 10) (Has.t rfl) (.cons (t := 14) (Has.t rfl) (.cons (t := 15) (Has.t rfl) (.cons (t := 17) (Has.t rfl) .nil)))))))))) ?_
        refine Tri.seq fun K27 hK27 => ?_
        refine Tri.region ?_
        refine st (OK1.mv (Has.t rfl)) rfl ?_
        refine st (OK1.mv (Has.t rfl)) rfl ?_
        refine st (OK1.quoU (Has.t rfl) (Has.t rfl) (by first | with_reducible exact True.intro | with_reducible assumption | with_reducible exact Nat.div_mul_le_self _ _ | with_reducible exact Nat.lt_of_le_of_lt (Nat.div_mul_le_self _ _) hR1 | omega | exact mul_bb (by omega) (by omega)) (by first | with_reducible exact True.intro | with_reducible assumption | with_reducible exact Nat.div_mul_le_self _ _ | with_reducible exact Nat.lt_of_le_of_lt (Nat.div_mul_le_self _ _) hR1 | omega | exact mul_bb (by omega) (by omega))) rfl ?_
        refine st (OK1.as (Has.t rfl)) rfl ?_
        refine nl ?_
        refine At.thn (hK27 _ _ ?_); clear hK27
        refine Tri.seq fun K28 hK28 => ?_
        refine Tri.region ?_
        refine st (OK1.mv (Has.t rfl)) rfl ?_
        refine st (OK1.mv (Has.t rfl)) rfl ?_
        refine st (OK1.mv (Has.t rfl)) rfl ?_
        refine st (OK1.mulU' (Has.t rfl) (Has.t rfl) (by first | with_reducible exact True.intro | with_reducible assumption | with_reducible exact Nat.div_mul_le_self _ _ | with_reducible exact Nat.lt_of_le_of_lt (Nat.div_mul_le_self _ _) hR1 | omega | exact mul_bb (by omega) (by omega))) rfl ?_
        refine st (OK1.subU' (Has.t rfl) (Has.t rfl) (by first | with_reducible exact True.intro | with_reducible assumption | with_reducible exact Nat.div_mul_le_self _ _ | with_reducible exact Nat.lt_of_le_of_lt (Nat.div_mul_le_self _ _) hR1 | omega | exact mul_bb (by omega) (by omega)) (by first | with_reducible exact True.intro | with_reducible assumption | with_reducible exact Nat.div_mul_le_self _ _ | with_reducible exact Nat.lt_of_le_of_lt (Nat.div_mul_le_self _ _) hR1 | omega | exact mul_bb (by omega) (by omega))) rfl ?_
        refine st (OK1.as (Has.t rfl)) rfl ?_
        refine nl ?_
        refine At.thn (hK28 _ _ ?_); clear hK28
        refine Tri.cv (Cv.wk (.cons (t := 2) (Has.t rfl) (.cons (t := 6) (Has.t rfl) (.cons (t := 7) (Has.t rfl) (.cons (t := 8) (Has.t rfl) (.cons (t := 9) (Has.t rfl) (.cons (t := 10) (Has.t rfl) (.cons (t := 14) (Has.t rfl) (.cons (t := 15) (Has.t rfl) (.cons (t := 17) (Has.t rfl) (.cons (t := 18) (Has.t rfl) (.cons (t := 16) (Has.t rfl) .nil)))))))))))) ?_
        refine Tri.cutF [2, 6, 7, 8, 14, 15, 17] (fun (_ : Unit) => [(18, isU ((((A * 4294967296 + U1) % Y) * 4294967296 + U0) / Y))]) (fun M => fun (_ : Unit) => M) (fun K29 hK29 => ?_) ?_
        · skip
          refine Tri.block ?_
          refine Tri.loopF [2, 6, 7, 8, 9, 10, 14, 15, 17] (fun (z : { z : Nat × Nat // Gs ((A * 4294967296 + U1) % Y) U0 v1 v0 z.1 z.2 }) => match z with | ⟨(q, r), hI⟩ => [(18, isU q), (16, isU r)]) (fun M => fun (z : { z : Nat × Nat // Gs ((A * 4294967296 + U1) % Y) U0 v1 v0 z.1 z.2 }) => match z with | ⟨(q, r), hI⟩ => M) (fun (z : { z : Nat × Nat // Gs ((A * 4294967296 + U1) % Y) U0 v1 v0 z.1 z.2 }) => match z with | ⟨(q, r), hI⟩ => q) (⟨(((A * 4294967296 + U1) % Y) / v1, ((A * 4294967296 + U1) % Y) - ((A * 4294967296 + U1) % Y) / v1 * v1), Gs.start D.hv2⟩) (Cv.mem (.cons (t := 18) (Has.t' rfl ?_) (.cons (t := 16) (Has.t' rfl ?_) (.cons (t := 2) (Has.t rfl) (.cons (t := 6) (Has.t rfl) (.cons (t := 7) (Has.t rfl) (.cons (t := 8) (Has.t rfl) (.cons (t := 9) (Has.t rfl) (.cons (t := 10) (Has.t rfl) (.cons (t := 14) (Has.t rfl) (.cons (t := 15) (Has.t rfl) (.cons (t := 17) (Has.t rfl) .nil))))))))))) ?_) ?_
          · rfl
          · rfl
          · rfl
          rintro ⟨⟨q, r⟩, g⟩ K30 hK30
          refine Tri.cv (Cv.wk (.cons (t := 18) (Has.t rfl) (.cons (t := 16) (Has.t rfl) (.cons (t := 2) (Has.t rfl) (.cons (t := 6) (Has.t rfl) (.cons (t := 7) (Has.t rfl) (.cons (t := 8) (Has.t rfl) (.cons (t := 9) (Has.t rfl) (.cons (t := 10) (Has.t rfl) (.cons (t := 14) (Has.t rfl) (.cons (t := 15) (Has.t rfl) (.cons (t := 17) (Has.t rfl) .nil)))))))))))) ?_
          simp only [] at g
          have gq := g.q
          have gr := g.r
          have hv0 := D.hv2.c
          have hv1 := D.hv2.b
          have hu1 := D.hv2.f
          refine Tri.seq fun K31 hK31 => ?_
          refine Tri.seq fun K32 hK32 => ?_
          refine Tri.region ?_
          refine st (OK1.mv (Has.t rfl)) rfl ?_
          refine st (OK1.geU (Has.t rfl) (Has.cU 4294967296 rfl)) rfl ?_
          refine st (OK1.mv (Has.t rfl)) rfl ?_
          refine stF rfl rfl (fun hg => have hg' := BP.t hg; OK1.mv (Has.t rfl)) rfl ?_
          refine stF rfl rfl (fun hg => have hg' := BP.t hg; OK1.mv (Has.t rfl)) rfl ?_
          refine stF rfl rfl (fun hg => have hg' := BP.t hg; OK1.mulU' (Has.g rfl hg) (Has.g rfl hg) (by first | with_reducible exact True.intro | with_reducible assumption | with_reducible exact Nat.div_mul_le_self _ _ | with_reducible exact Nat.lt_of_le_of_lt (Nat.div_mul_le_self _ _) hR1 | omega | exact mul_bb (by omega) (by omega))) rfl ?_
          refine stF rfl rfl (fun hg => have hg' := BP.t hg; OK1.mv (Has.t rfl)) rfl ?_
          refine stF rfl rfl (fun hg => have hg' := BP.t hg; OK1.mulU' (Has.cU 4294967296 rfl) (Has.g rfl hg) (by first | with_reducible exact True.intro | with_reducible assumption | with_reducible exact Nat.div_mul_le_self _ _ | with_reducible exact Nat.lt_of_le_of_lt (Nat.div_mul_le_self _ _) hR1 | omega | exact mul_bb (by omega) (by omega))) rfl ?_
          refine stF rfl rfl (fun hg => have hg' := BP.t hg; OK1.mv (Has.t rfl)) rfl ?_
          refine stF rfl rfl (fun hg => have hg' := BP.t hg; OK1.addU' (Has.g rfl hg) (Has.g rfl hg) (by first | with_reducible exact True.intro | with_reducible assumption | with_reducible exact Nat.div_mul_le_self _ _ | with_reducible exact Nat.lt_of_le_of_lt (Nat.div_mul_le_self _ _) hR1 | omega | exact mul_bb (by omega) (by omega))) rfl ?_
          refine stF rfl rfl (fun hg => have hg' := BP.t hg; OK1.gtU (Has.g rfl hg) (Has.g rfl hg)) rfl ?_
          refine st (OK1.pickOr (Has.t rfl) (fun h => Has.g rfl (ng h))) rfl ?_
          refine nl ?_
          refine At.thn (hK32 _ _ ?_); clear hK32
          refine Tri.cond (Has.t rfl) (fun hc6 => ?_) (fun hc6 => ?_)
          · have hc6 := BP.t hc6
            have hn := Gs.next D.hv2 g hc6
            refine Tri.skip ?_
            refine At.thn (hK31 _ _ ?_); clear hK31
            refine Tri.block ?_
            refine Tri.seq fun K33 hK33 => ?_
            refine Tri.region ?_
            refine st (OK1.mv (Has.t rfl)) rfl ?_
            refine st (OK1.subU' (Has.t rfl) (Has.cU 1 rfl) (by first | with_reducible exact True.intro | with_reducible assumption | with_reducible exact Nat.div_mul_le_self _ _ | with_reducible exact Nat.lt_of_le_of_lt (Nat.div_mul_le_self _ _) hR1 | omega | exact mul_bb (by omega) (by omega)) (by first | with_reducible exact True.intro | with_reducible assumption | with_reducible exact Nat.div_mul_le_self _ _ | with_reducible exact Nat.lt_of_le_of_lt (Nat.div_mul_le_self _ _) hR1 | omega | exact mul_bb (by omega) (by omega))) rfl ?_
            refine st (OK1.as (Has.t rfl)) rfl ?_
            refine nl ?_
            refine At.thn (hK33 _ _ ?_); clear hK33
            refine Tri.seq fun K34 hK34 => ?_
            refine Tri.region ?_
            refine st (OK1.mv (Has.t rfl)) rfl ?_
            refine st (OK1.mv (Has.t rfl)) rfl ?_
            refine st (OK1.addU' (Has.t rfl) (Has.t rfl) (by first | with_reducible exact True.intro | with_reducible assumption | with_reducible exact Nat.div_mul_le_self _ _ | with_reducible exact Nat.lt_of_le_of_lt (Nat.div_mul_le_self _ _) hR1 | omega | exact mul_bb (by omega) (by omega))) rfl ?_
            refine st (OK1.as (Has.t rfl)) rfl ?_
            refine nl ?_
            refine At.thn (hK34 _ _ ?_); clear hK34
            refine Tri.seq fun K35 hK35 => ?_
            refine Tri.region ?_
            refine st (OK1.mv (Has.t rfl)) rfl ?_
            refine st (OK1.geU (Has.t rfl) (Has.cU 4294967296 rfl)) rfl ?_
            refine nl ?_
            refine At.thn (hK35 _ _ ?_); clear hK35
            refine Tri.cond (Has.t rfl) (fun hc7 => ?_) (fun hc7 => ?_)
            · have hc7 := BP.t hc7
              refine Tri.exit ?_
              refine At.blm rfl ?_
              refine At.the ?_
              refine At.blh ?_
              refine At.thn ?_
              refine hK29 (()) _ _ (Cv.mem (.cons (t := 18) (Has.t' rfl ?_) (.cons (t := 2) (Has.t rfl) (.cons (t := 6) (Has.t rfl) (.cons (t := 7) (Has.t rfl) (.cons (t := 8) (Has.t rfl) (.cons (t := 14) (Has.t rfl) (.cons (t := 15) (Has.t rfl) (.cons (t := 17) (Has.t rfl) .nil)))))))) ?_)
              · exact isU_eq ((Gs.exit2 D.hv2 hn.1 hn.2.1 hn.2.2.1 (by omega)).trans (by rw [D.kY]))
              · rfl
            · have hc7 := BP.f hc7
              refine Tri.skip ?_
              refine At.bln ?_
              refine At.thn ?_
              refine hK30 (⟨(q - 1, r + v1), hn.1, hn.2.1, by show q - 1 ≤ _; omega, by show r + v1 < _; omega⟩) _ _ ?_ (Cv.mem (.cons (t := 18) (Has.t' rfl ?_) (.cons (t := 16) (Has.t' rfl ?_) (.cons (t := 2) (Has.t rfl) (.cons (t := 6) (Has.t rfl) (.cons (t := 7) (Has.t rfl) (.cons (t := 8) (Has.t rfl) (.cons (t := 9) (Has.t rfl) (.cons (t := 10) (Has.t rfl) (.cons (t := 14) (Has.t rfl) (.cons (t := 15) (Has.t rfl) (.cons (t := 17) (Has.t rfl) .nil))))))))))) ?_)
              · show q - 1 < q; omega
              · rfl
              · rfl
              · rfl
          · have hc6 := BP.f hc6
            refine Tri.exit ?_
            refine At.the ?_
            refine At.the ?_
            refine At.blh ?_
            refine At.thn ?_
            refine hK29 (()) _ _ (Cv.mem (.cons (t := 18) (Has.t' rfl ?_) (.cons (t := 2) (Has.t rfl) (.cons (t := 6) (Has.t rfl) (.cons (t := 7) (Has.t rfl) (.cons (t := 8) (Has.t rfl) (.cons (t := 14) (Has.t rfl) (.cons (t := 15) (Has.t rfl) (.cons (t := 17) (Has.t rfl) .nil)))))))) ?_)
            · exact isU_eq ((Gs.exit D.hv2 g (by omega)).trans (by rw [D.kY]))
            · rfl
        rintro _
        refine Tri.cv (Cv.wk (.cons (t := 18) (Has.t rfl) (.cons (t := 2) (Has.t rfl) (.cons (t := 6) (Has.t rfl) (.cons (t := 7) (Has.t rfl) (.cons (t := 8) (Has.t rfl) (.cons (t := 14) (Has.t rfl) (.cons (t := 15) (Has.t rfl) (.cons (t := 17) (Has.t rfl) .nil))))))))) ?_
        refine Tri.seq fun K36 hK36 => ?_
        refine Tri.region ?_
        refine st (OK1.mv (Has.t rfl)) rfl ?_
        refine st (OK1.mulU (Has.t rfl) (Has.cU 4294967296 rfl)) rfl ?_
        refine st (OK1.mv (Has.t rfl)) rfl ?_
        refine st (OK1.addU (Has.t rfl) (Has.t rfl)) rfl ?_
        refine st (OK1.mv (Has.t rfl)) rfl ?_
        refine st (OK1.mulU (Has.t rfl) (Has.cU 4294967296 rfl)) rfl ?_
        refine st (OK1.mv (Has.t rfl)) rfl ?_
        refine st (OK1.addU (Has.t rfl) (Has.t rfl)) rfl ?_
        refine st (OK1.mv (Has.t rfl)) rfl ?_
        refine st (OK1.mv (Has.t rfl)) rfl ?_
        refine st (OK1.mulU (Has.t rfl) (Has.t rfl)) rfl ?_
        refine st (OK1.eq (OK1.subU (Has.t rfl) (Has.t rfl) (by first | with_reducible exact True.intro | with_reducible assumption | with_reducible exact Nat.div_mul_le_self _ _ | with_reducible exact Nat.lt_of_le_of_lt (Nat.div_mul_le_self _ _) hR1 | omega | exact mul_bb (by omega) (by omega))) ((show isU _ = isU ((((A * 4294967296 + U1) % Y) * 4294967296 + U0) % Y) from isU_eq (wrapSub (divMul _ _) hR0 hU0)))) rfl ?_
        refine st (OK1.mv (Has.t rfl)) rfl ?_
        refine st (OK1.shrUU (Has.t rfl) (Has.t rfl) (by first | with_reducible exact True.intro | with_reducible assumption | with_reducible exact Nat.div_mul_le_self _ _ | with_reducible exact Nat.lt_of_le_of_lt (Nat.div_mul_le_self _ _) hR1 | omega | exact mul_bb (by omega) (by omega))) rfl ?_
        refine st (OK1.as (Has.t rfl)) rfl ?_
        refine st (OK1.as (Has.t rfl)) rfl ?_
        refine nl ?_
        refine At.thn (hK36 _ _ ?_); clear hK36
        refine Tri.cv (Cv.wk (.cons (t := 6) (Has.t rfl) (.cons (t := 7) (Has.t rfl) .nil))) ?_
        refine Tri.ret ?_
        refine rtN (.inl rfl) Try.results181 rfl rfl (.tmp (Has.t' rfl ?_) (.tmp (Has.t' rfl ?_) .nil))
        · exact isU_eq (Eq.trans (wrapAdd hQ1 hQ0) D.quo)
        · exact isU_eq D.rem
end Go.Proofs.Ytokhpacdgoebpaa
