/- Contracts: the reference for products, and for whole numbers. -/
import Derived.Test.YtokhpacdgoebpaaRef1
import Derived.Test.YtokhpacdgoebpaaZi1
namespace Go.Proofs.Ytokhpacdgoebpaa
open Go.En Go.RowKit
set_option linter.unusedVariables false
set_option maxRecDepth 10000
open Go.Nt
set_option maxHeartbeats 4000000 in
theorem ref01_Mul {a b : Nat} (ha : (List.length (digs a)) ≤ 134217728) (hb : (List.length (digs b)) ≤ 134217728) : Ctr Try.prog 164 [SlM isN (digs a), SlM isN (digs b)] (SlM isN (digs (a * b))) := by
  refine Ctr.intro Try.func164 rfl (by kernel_rfl) Try.ntmps164 rfl fun w0 F0 => ?_
  refine Tri.cv (Cv.wk (.cons (t := 0) (Has.t rfl) (.cons (t := 1) (Has.t rfl) .nil))) ?_
  refine Tri.fact (Has.lenLt (Has.t (t := 0) rfl)) fun lt0 => ?_
  refine Tri.fact (Has.lenLt (Has.t (t := 1) rfl)) fun lt1 => ?_
  refine Tri.seq fun K1 hK1 => ?_
  refine Tri.region ?_
  refine st (OK1.as (Has.cW (f := isN))) rfl ?_
  refine nl ?_
  refine At.thn (hK1 _ _ ?_); clear hK1
  refine Tri.seq fun K2 hK2 => ?_
  refine Tri.region ?_
  refine st (OK1.as (Has.cW (f := isN))) rfl ?_
  refine nl ?_
  refine At.thn (hK2 _ _ ?_); clear hK2
  refine Tri.seq fun K3 hK3 => ?_
  refine Tri.seq fun K4 hK4 => ?_
  refine Tri.region ?_
  refine st (OK1.as (Has.cI 0 rfl)) rfl ?_
  refine nl ?_
  refine At.thn (hK4 _ _ ?_); clear hK4
  refine Tri.block ?_
  refine Tri.loopF [0, 1, 4] (fun (z : { i : Nat // i ≤ (List.length (digs b)) }) => match z with | ⟨i, hi⟩ => [(6, isI (i : Int)), (5, SlM isN (digs (a * (b % D ^ i))))]) (fun M => fun (z : { i : Nat // i ≤ (List.length (digs b)) }) => match z with | ⟨i, hi⟩ => []) (fun (z : { i : Nat // i ≤ (List.length (digs b)) }) => match z with | ⟨i, hi⟩ => (List.length (digs b)) - i) (⟨0, Nat.zero_le _⟩) (Cv.mem (.cons (t := 6) (Has.t' rfl ?_) (.cons (t := 5) (Has.t' rfl ?_) (.cons (t := 0) (Has.t rfl) (.cons (t := 1) (Has.t rfl) (.cons (t := 4) (Has.t rfl) .nil))))) ?_) ?_
  · rfl
  · exact SlM_eq (by rw [Nat.pow_zero, Nat.mod_one, Nat.mul_zero, d_words_zero])
  · rfl
  rintro ⟨i, hi⟩ K5 hK5
  refine Tri.cv (Cv.wk (.cons (t := 6) (Has.t rfl) (.cons (t := 5) (Has.t rfl) (.cons (t := 0) (Has.t rfl) (.cons (t := 1) (Has.t rfl) (.cons (t := 4) (Has.t rfl) .nil)))))) ?_
  refine Tri.memEq (M' := []) rfl ?_
  have hmp := mul_part a b i
  refine Tri.seq fun K6 hK6 => ?_
  refine Tri.seq fun K7 hK7 => ?_
  refine Tri.region ?_
  refine st (OK1.mv (Has.t rfl)) rfl ?_
  refine st (OK1.mv (Has.t rfl)) rfl ?_
  refine st (OK1.len sl32 (Has.t rfl)) rfl ?_
  refine st (OK1.ltI (Has.t rfl) (Has.t rfl)) rfl ?_
  refine nl ?_
  refine At.thn (hK7 _ _ ?_); clear hK7
  refine Tri.cond (Has.t rfl) (fun hc1 => ?_) (fun hc1 => ?_)
  · have hc1 := BP.t hc1
    refine Tri.skip ?_
    refine At.thn (hK6 _ _ ?_); clear hK6
    refine Tri.seq fun K8 hK8 => ?_
    refine Tri.block ?_
    refine Tri.seq fun K9 hK9 => ?_
    refine Tri.region ?_
    refine Ops.cv (Cv.grow0 (α := Nat) isN) ?_
    refine st (OK1.as (Has.cGr (α := Nat))) rfl ?_
    refine nl ?_
    refine At.thn (hK9 _ _ ?_); clear hK9
    refine Tri.seq fun K10 hK10 => ?_
    refine Tri.seq fun K11 hK11 => ?_
    refine Tri.region ?_
    refine st (OK1.as (Has.cI 0 rfl)) rfl ?_
    refine nl ?_
    refine At.thn (hK11 _ _ ?_); clear hK11
    refine Tri.block ?_
    refine Tri.loopF [0, 1, 4, 6, 5, 10, 11, 12, 13] (fun (z : { z : Nat × Gr Nat // z.1 ≤ i }) => match z with | ⟨(j, g), hj⟩ => [(8, isI (j : Int)), (7, isGr g (List.replicate j 0).length)]) (fun M => fun (z : { z : Nat × Gr Nat // z.1 ≤ i }) => match z with | ⟨(j, g), hj⟩ => [grM isN g (List.replicate j 0)]) (fun (z : { z : Nat × Gr Nat // z.1 ≤ i }) => match z with | ⟨(j, g), hj⟩ => i - j) (⟨(0, Gr.nil), Nat.zero_le _⟩) (Cv.mem (.cons (t := 8) (Has.t' rfl ?_) (.cons (t := 7) (Has.t' rfl ?_) (.cons (t := 0) (Has.t rfl) (.cons (t := 1) (Has.t rfl) (.cons (t := 4) (Has.t rfl) (.cons (t := 6) (Has.t rfl) (.cons (t := 5) (Has.t rfl) (.cons (t := 10) (Has.t rfl) (.cons (t := 11) (Has.t rfl) (.cons (t := 12) (Has.t rfl) (.cons (t := 13) (Has.t rfl) .nil))))))))))) ?_) ?_
    · rfl
    · rfl
    · rfl
    rintro ⟨⟨j, g⟩, hj⟩ K12 hK12
    refine Tri.cv (Cv.wk (.cons (t := 8) (Has.t rfl) (.cons (t := 7) (Has.t rfl) (.cons (t := 0) (Has.t rfl) (.cons (t := 1) (Has.t rfl) (.cons (t := 4) (Has.t rfl) (.cons (t := 6) (Has.t rfl) (.cons (t := 5) (Has.t rfl) (.cons (t := 10) (Has.t rfl) (.cons (t := 11) (Has.t rfl) (.cons (t := 12) (Has.t rfl) (.cons (t := 13) (Has.t rfl) .nil)))))))))))) ?_
    refine Tri.memEq (M' := [grM isN g (List.replicate j 0)]) rfl ?_
    simp only [] at hj
    have hrl : (List.replicate j 0).length = j := List.length_replicate
    refine Tri.seq fun K13 hK13 => ?_
    refine Tri.seq fun K14 hK14 => ?_
    refine Tri.region ?_
    refine st (OK1.mv (Has.t rfl)) rfl ?_
    refine st (OK1.mv (Has.t rfl)) rfl ?_
    refine st (OK1.ltI (Has.t rfl) (Has.t rfl)) rfl ?_
    refine nl ?_
    refine At.thn (hK14 _ _ ?_); clear hK14
    refine Tri.cond (Has.t rfl) (fun hc2 => ?_) (fun hc2 => ?_)
    · have hc2 := BP.t hc2
      refine Tri.skip ?_
      refine At.thn (hK13 _ _ ?_); clear hK13
      refine Tri.seq fun K15 hK15 => ?_
      refine Tri.block ?_
      refine Tri.region ?_
      refine st (OK1.mv (Has.t rfl)) rfl ?_
      refine st (OK1.buildS [isI 0] sl32 ty3 zero3 (fun _ _ => ⟨⟨rfl, by decide, by decide⟩, trivial⟩) rfl rfl (.cons (Has.cI 0 rfl) rfl rfl rfl .nil) rfl (S := SlM isN [0]) rfl) rfl ?_
      refine Ops.appendG (f := isN) (u := 0) sl32 ty3 zero3 (fun _ _ => ⟨⟨rfl, by decide, by decide⟩, trivial⟩) (fun _ => inferInstance) by3 (Has.t rfl) (i := 0) rfl (Has.t rfl) (by simp only [List.length_cons, List.length_nil]; omega) (by simp) rfl fun gr1 => ?_
      refine Ops.memEq (M' := [grM _ _ _]) rfl ?_
      refine st (OK1.as (Has.t rfl)) rfl ?_
      refine nl ?_
      refine At.bln ?_
      refine At.thn (hK15 _ _ ?_); clear hK15
      refine Tri.region ?_
      refine st (OK1.mv (Has.t rfl)) rfl ?_
      refine st (OK1.addI (Has.t rfl) (Has.cI 1 rfl) (by first | with_reducible assumption | omega | with_reducible exact d_words_ok _ | with_reducible exact lineL_le _ _ _ _ | (simp only [dv_abs, d_val_words, dval_line]; omega) | (rw [lineL_len]; omega)) (by first | with_reducible assumption | omega | with_reducible exact d_words_ok _ | with_reducible exact lineL_le _ _ _ _ | (simp only [dv_abs, d_val_words, dval_line]; omega) | (rw [lineL_len]; omega))) rfl ?_
      refine st (OK1.as (Has.t rfl)) rfl ?_
      refine nl ?_
      refine At.thn ?_
      refine hK12 (⟨(j + 1, gr1), by show j + 1 ≤ i; omega⟩) _ _ ?_ (Cv.mem (.cons (t := 8) (Has.t' rfl ?_) (.cons (t := 7) (Has.t' rfl ?_) (.cons (t := 0) (Has.t rfl) (.cons (t := 1) (Has.t rfl) (.cons (t := 4) (Has.t rfl) (.cons (t := 6) (Has.t rfl) (.cons (t := 5) (Has.t rfl) (.cons (t := 10) (Has.t rfl) (.cons (t := 11) (Has.t rfl) (.cons (t := 12) (Has.t rfl) (.cons (t := 13) (Has.t rfl) .nil))))))))))) ?_)
      · show i - (j + 1) < i - j; omega
      · rfl
      · exact isGr_eq (by simp only [List.length_append, List.length_replicate, lineL_len, List.length_cons, List.length_nil] <;> omega)
      · exact grM_eq (rep_succ _).symm
    · have hc2 := BP.f hc2
      refine Tri.exit ?_
      refine At.the ?_
      refine At.the ?_
      refine At.blh ?_
      refine At.thn (hK10 _ _ ?_); clear hK10
      refine Tri.seq fun K16 hK16 => ?_
      refine Tri.seq fun K17 hK17 => ?_
      refine Tri.region ?_
      refine st (OK1.as (Has.cI 0 rfl)) rfl ?_
      refine nl ?_
      refine At.thn (hK17 _ _ ?_); clear hK17
      refine Tri.block ?_
      obtain rfl : i = j := by omega
      refine Tri.loopF [0, 1, 4, 6, 5, 10, 11, 12, 13, 8, 16, 17, 18] (fun (z : { z : Nat × Gr Nat // z.1 ≤ (List.length (digs a)) }) => match z with | ⟨(k, g2), hk⟩ => [(9, isI (k : Int)), (7, isGr g2 (lineL a b i k).length)]) (fun M => fun (z : { z : Nat × Gr Nat // z.1 ≤ (List.length (digs a)) }) => match z with | ⟨(k, g2), hk⟩ => [grM isN g2 (lineL a b i k)]) (fun (z : { z : Nat × Gr Nat // z.1 ≤ (List.length (digs a)) }) => match z with | ⟨(k, g2), hk⟩ => (List.length (digs a)) - k) (⟨(0, g), Nat.zero_le _⟩) (Cv.mem (.cons (t := 9) (Has.t' rfl ?_) (.cons (t := 7) (Has.t' rfl ?_) (.cons (t := 0) (Has.t rfl) (.cons (t := 1) (Has.t rfl) (.cons (t := 4) (Has.t rfl) (.cons (t := 6) (Has.t rfl) (.cons (t := 5) (Has.t rfl) (.cons (t := 10) (Has.t rfl) (.cons (t := 11) (Has.t rfl) (.cons (t := 12) (Has.t rfl) (.cons (t := 13) (Has.t rfl) (.cons (t := 8) (Has.t rfl) (.cons (t := 16) (Has.t rfl) (.cons (t := 17) (Has.t rfl) (.cons (t := 18) (Has.t rfl) .nil))))))))))))))) ?_) ?_
      · rfl
      · exact isGr_eq (by rw [lineL_zero])
      · exact grM_eq (lineL_zero _ _ _).symm
      rintro ⟨⟨k, g2⟩, hk⟩ K18 hK18
      refine Tri.cv (Cv.wk (.cons (t := 9) (Has.t rfl) (.cons (t := 7) (Has.t rfl) (.cons (t := 0) (Has.t rfl) (.cons (t := 1) (Has.t rfl) (.cons (t := 4) (Has.t rfl) (.cons (t := 6) (Has.t rfl) (.cons (t := 5) (Has.t rfl) (.cons (t := 10) (Has.t rfl) (.cons (t := 11) (Has.t rfl) (.cons (t := 12) (Has.t rfl) (.cons (t := 13) (Has.t rfl) (.cons (t := 8) (Has.t rfl) (.cons (t := 16) (Has.t rfl) (.cons (t := 17) (Has.t rfl) (.cons (t := 18) (Has.t rfl) .nil)))))))))))))))) ?_
      refine Tri.memEq (M' := [grM isN g2 (lineL a b i k)]) rfl ?_
      simp only [] at hk
      have hln := lineL_nd a b i k
      have hll := lineL_len a b i k
      have b1 := d_dig_lt a k
      have b2 := d_dig_lt b i
      have b3 := Nat.mul_le_mul (Nat.le_of_lt b1) (Nat.le_of_lt b2)
      unfold D at b1 b2 b3
      refine Tri.seq fun K19 hK19 => ?_
      refine Tri.seq fun K20 hK20 => ?_
      refine Tri.region ?_
      refine st (OK1.mv (Has.t rfl)) rfl ?_
      refine st (OK1.mv (Has.t rfl)) rfl ?_
      refine st (OK1.len sl32 (Has.t rfl)) rfl ?_
      refine st (OK1.ltI (Has.t rfl) (Has.t rfl)) rfl ?_
      refine nl ?_
      refine At.thn (hK20 _ _ ?_); clear hK20
      refine Tri.cond (Has.t rfl) (fun hc3 => ?_) (fun hc3 => ?_)
      · have hc3 := BP.t hc3
        refine Tri.skip ?_
        refine At.thn (hK19 _ _ ?_); clear hK19
        refine Tri.seq fun K21 hK21 => ?_
        refine Tri.block ?_
        refine Tri.dr ?_
        refine DrG.st (i := 0) [] rfl rfl rfl (by kernel_rfl) (OKG.o rfl (OK1.mv (Has.t rfl))) ?_
        refine DrG.st (i := 1) [] rfl rfl rfl (by kernel_rfl) (OKG.o rfl (OK1.mv (Has.t rfl))) ?_
        refine DrG.st (i := 2) [] rfl rfl rfl (by kernel_rfl) (OKG.o rfl (OK1.mv (Has.t rfl))) ?_
        refine DrG.st (i := 3) [31, 32] rfl rfl rfl (by kernel_rfl) (OKG.o rfl (OK1.ixP sl32 ty3 (Has.t rfl) (Has.t rfl) ⟨by omega, by omega⟩ (getD_some (d := 0) (by first | omega | (simp only [Int.toNat_natCast, List.length_set]; omega))))) ?_
        refine DrG.st (i := 4) [33] rfl rfl rfl (by kernel_rfl) (OKG.o rfl (OK1.eq (OK1.loadP1 (Has.t rfl) ty3) ((show isI _ = isN (dg a k) from isI_eq (by rw [Int.toNat_natCast, d_getD_words]))))) ?_
        refine DrG.st (i := 5) [] rfl rfl rfl (by kernel_rfl) (OKG.o rfl (OK1.mv (Has.t rfl))) ?_
        refine DrG.st (i := 6) [] rfl rfl rfl (by kernel_rfl) (OKG.o rfl (OK1.mv (Has.t rfl))) ?_
        refine DrG.st (i := 7) [35, 36] rfl rfl rfl (by kernel_rfl) (OKG.o rfl (OK1.ixP sl32 ty3 (Has.t rfl) (Has.t rfl) ⟨by omega, by omega⟩ (getD_some (d := 0) (by first | omega | (simp only [Int.toNat_natCast, List.length_set]; omega))))) ?_
        refine DrG.st (i := 8) [37] rfl rfl rfl (by kernel_rfl) (OKG.o rfl (OK1.eq (OK1.loadP1 (Has.t rfl) ty3) ((show isI _ = isN (dg b i) from isI_eq (by rw [Int.toNat_natCast, d_getD_words]))))) ?_
        refine DrG.st (i := 9) [34, 38] rfl rfl rfl (by kernel_rfl) (OKG.o rfl (OK1.eq (OK1.mulI (Has.t rfl) (Has.t rfl) (by first | with_reducible assumption | omega | with_reducible exact d_words_ok _ | with_reducible exact lineL_le _ _ _ _ | (simp only [dv_abs, d_val_words, dval_line]; omega) | (rw [lineL_len]; omega)) (by first | with_reducible assumption | omega | with_reducible exact d_words_ok _ | with_reducible exact lineL_le _ _ _ _ | (simp only [dv_abs, d_val_words, dval_line]; omega) | (rw [lineL_len]; omega))) ((show isI _ = isN (dg a k * dg b i) from isI_eq (by rw [Int.natCast_mul]))))) ?_
        refine DrG.st (i := 10) [39] rfl rfl rfl (by kernel_rfl) (OKG.o rfl (OK1.buildS [isI 0] sl32 ty3 zero3 (fun _ _ => ⟨⟨rfl, by decide, by decide⟩, trivial⟩) rfl rfl (.cons (Has.t rfl) rfl rfl rfl .nil) rfl (S := SlM isN [_]) rfl)) ?_
        refine DrG.fin (n := 11) mixed (by kernel_rfl) (by kernel_rfl) (by kernel_rfl) ?_
        refine Ops.cv (Cv.wk (.cons (t := 0) (Has.t rfl) (.cons (t := 1) (Has.t rfl) (.cons (t := 4) (Has.t rfl) (.cons (t := 6) (Has.t rfl) (.cons (t := 5) (Has.t rfl) (.cons (t := 10) (Has.t rfl) (.cons (t := 11) (Has.t rfl) (.cons (t := 12) (Has.t rfl) (.cons (t := 13) (Has.t rfl) (.cons (t := 8) (Has.t rfl) (.cons (t := 16) (Has.t rfl) (.cons (t := 17) (Has.t rfl) (.cons (t := 18) (Has.t rfl) (.cons (t := 9) (Has.t rfl) (.cons (t := 7) (Has.t rfl) (.cons (t := 24) (Has.t rfl) (.cons (t := 25) (Has.t rfl) (.cons (t := 26) (Has.t rfl) (.cons (t := 27) (Has.t rfl) (.cons (t := 30) (Has.t rfl) (.cons (t := 31) (Has.t rfl) (.cons (t := 32) (Has.t rfl) (.cons (t := 33) (Has.t rfl) (.cons (t := 34) (Has.t rfl) (.cons (t := 35) (Has.t rfl) (.cons (t := 36) (Has.t rfl) (.cons (t := 37) (Has.t rfl) (.cons (t := 38) (Has.t rfl) (.cons (t := 39) (Has.t rfl) (.cons (t := 40) (Has.t rfl) .nil))))))))))))))))))))))))))))))) ?_
        refine Ops.appendG (f := isN) (u := 0) sl32 ty3 zero3 (fun _ _ => ⟨⟨rfl, by decide, by decide⟩, trivial⟩) (fun _ => inferInstance) by3 (Has.t rfl) (i := 0) rfl (Has.t rfl) (by simp only [List.length_cons, List.length_nil]; omega) (by simp) rfl fun gr1 => ?_
        refine Ops.memEq (M' := [grM _ _ _]) rfl ?_
        refine st (OK1.as (Has.t rfl)) rfl ?_
        refine nl ?_
        refine At.bln ?_
        refine At.thn (hK21 _ _ ?_); clear hK21
        refine Tri.region ?_
        refine st (OK1.mv (Has.t rfl)) rfl ?_
        refine st (OK1.addI (Has.t rfl) (Has.cI 1 rfl) (by first | with_reducible assumption | omega | with_reducible exact d_words_ok _ | with_reducible exact lineL_le _ _ _ _ | (simp only [dv_abs, d_val_words, dval_line]; omega) | (rw [lineL_len]; omega)) (by first | with_reducible assumption | omega | with_reducible exact d_words_ok _ | with_reducible exact lineL_le _ _ _ _ | (simp only [dv_abs, d_val_words, dval_line]; omega) | (rw [lineL_len]; omega))) rfl ?_
        refine st (OK1.as (Has.t rfl)) rfl ?_
        refine nl ?_
        refine At.thn ?_
        refine hK18 (⟨(k + 1, gr1), by show k + 1 ≤ _; omega⟩) _ _ ?_ (Cv.mem (.cons (t := 9) (Has.t' rfl ?_) (.cons (t := 7) (Has.t' rfl ?_) (.cons (t := 0) (Has.t rfl) (.cons (t := 1) (Has.t rfl) (.cons (t := 4) (Has.t rfl) (.cons (t := 6) (Has.t rfl) (.cons (t := 5) (Has.t rfl) (.cons (t := 10) (Has.t rfl) (.cons (t := 11) (Has.t rfl) (.cons (t := 12) (Has.t rfl) (.cons (t := 13) (Has.t rfl) (.cons (t := 8) (Has.t rfl) (.cons (t := 16) (Has.t rfl) (.cons (t := 17) (Has.t rfl) (.cons (t := 18) (Has.t rfl) .nil))))))))))))))) ?_)
        · show (List.length (digs a)) - (k + 1) < (List.length (digs a)) - k; omega
        · rfl
        · exact isGr_eq (by simp only [List.length_append, List.length_replicate, lineL_len, List.length_cons, List.length_nil] <;> omega)
        · exact grM_eq (lineL_succ _ _ _ _).symm
      · have hc3 := BP.f hc3
        refine Tri.exit ?_
        refine At.the ?_
        refine At.the ?_
        refine At.blh ?_
        refine At.thn (hK16 _ _ ?_); clear hK16
        refine Tri.cv (Cv.freezeG (t := 7) (i := 0) (ys := _) rfl rfl rfl) ?_
        refine Tri.memEq (M' := []) rfl ?_
        refine Tri.cv (Cv.wk (.cons (t := 0) (Has.t rfl) (.cons (t := 1) (Has.t rfl) (.cons (t := 4) (Has.t rfl) (.cons (t := 6) (Has.t rfl) (.cons (t := 5) (Has.t rfl) (.cons (t := 10) (Has.t rfl) (.cons (t := 11) (Has.t rfl) (.cons (t := 12) (Has.t rfl) (.cons (t := 13) (Has.t rfl) (.cons (t := 8) (Has.t rfl) (.cons (t := 16) (Has.t rfl) (.cons (t := 17) (Has.t rfl) (.cons (t := 18) (Has.t rfl) (.cons (t := 9) (Has.t rfl) (.cons (t := 7) (Has.t rfl) (.cons (t := 24) (Has.t rfl) (.cons (t := 25) (Has.t rfl) (.cons (t := 26) (Has.t rfl) (.cons (t := 27) (Has.t rfl) .nil)))))))))))))))))))) ?_
        refine Tri.region ?_
        refine st (OK1.mv (Has.t rfl)) rfl ?_
        refine st (OK1.mv (Has.t rfl)) rfl ?_
        refine st (OK1.call (ref01_Carried (by first | with_reducible assumption | omega | with_reducible exact d_words_ok _ | with_reducible exact lineL_le _ _ _ _ | (simp only [dv_abs, d_val_words, dval_line]; omega) | (rw [lineL_len]; omega)) (by first | with_reducible assumption | omega | with_reducible exact d_words_ok _ | with_reducible exact lineL_le _ _ _ _ | (simp only [dv_abs, d_val_words, dval_line]; omega) | (rw [lineL_len]; omega))) (.cons (Has.t rfl) .nil)) rfl ?_
        refine st (OK1.call (ref01_Add (by first | with_reducible assumption | omega | with_reducible exact d_words_ok _ | with_reducible exact lineL_le _ _ _ _ | (simp only [dv_abs, d_val_words, dval_line]; omega) | (rw [lineL_len]; omega)) (by first | with_reducible assumption | omega | with_reducible exact d_words_ok _ | with_reducible exact lineL_le _ _ _ _ | (simp only [dv_abs, d_val_words, dval_line]; omega) | (rw [lineL_len]; omega))) (.cons (Has.t rfl) (.cons (Has.t rfl) .nil))) rfl ?_
        refine st (OK1.as (Has.t rfl)) rfl ?_
        refine nl ?_
        refine At.bln ?_
        refine At.thn (hK8 _ _ ?_); clear hK8
        refine Tri.region ?_
        refine st (OK1.mv (Has.t rfl)) rfl ?_
        refine st (OK1.addI (Has.t rfl) (Has.cI 1 rfl) (by first | with_reducible assumption | omega | with_reducible exact d_words_ok _ | with_reducible exact lineL_le _ _ _ _ | (simp only [dv_abs, d_val_words, dval_line]; omega) | (rw [lineL_len]; omega)) (by first | with_reducible assumption | omega | with_reducible exact d_words_ok _ | with_reducible exact lineL_le _ _ _ _ | (simp only [dv_abs, d_val_words, dval_line]; omega) | (rw [lineL_len]; omega))) rfl ?_
        refine st (OK1.as (Has.t rfl)) rfl ?_
        refine nl ?_
        refine At.thn ?_
        have hkk : k = (List.length (digs a)) := by omega
        refine hK5 (⟨i + 1, by omega⟩) _ _ ?_ (Cv.mem (.cons (t := 6) (Has.t' rfl ?_) (.cons (t := 5) (Has.t' rfl ?_) (.cons (t := 0) (Has.t rfl) (.cons (t := 1) (Has.t rfl) (.cons (t := 4) (Has.t rfl) .nil))))) ?_)
        · show (List.length (digs b)) - (i + 1) < (List.length (digs b)) - i; omega
        · rfl
        · exact SlM_eq (congrArg digs (line_sum (by omega)))
        · rfl
  · have hc1 := BP.f hc1
    refine Tri.exit ?_
    refine At.the ?_
    refine At.the ?_
    refine At.blh ?_
    refine At.thn (hK3 _ _ ?_); clear hK3
    refine Tri.cv (Cv.wk (.cons (t := 4) (Has.t rfl) (.cons (t := 5) (Has.t rfl) .nil))) ?_
    refine Tri.seq fun K22 hK22 => ?_
    refine Tri.region ?_
    refine st (OK1.mv (Has.t rfl)) rfl ?_
    refine st (OK1.as (Has.t rfl)) rfl ?_
    refine nl ?_
    refine At.thn (hK22 _ _ ?_); clear hK22
    refine Tri.ret ?_
    refine rt1 (.inl rfl) Try.results164 rfl (.tmp (Has.t' rfl ?_) .nil)
    all_goals (obtain rfl : i = (List.length (digs b)) := (by omega); exact SlM_eq (congrArg digs (mul_end (Nat.le_refl _))))

set_option maxHeartbeats 4000000 in
theorem ref05_norm {m : Bool} {ds : List Nat} (hx : OkD ds) : Ctr Try.prog 132 [Flat [isB m, SlM isN ds]] (isR (dv m ds)) := by
  refine Ctr.intro Try.func132 rfl (by kernel_rfl) Try.ntmps132 rfl fun w0 F0 => ?_
  refine Tri.cv (Cv.wk (.cons (t := 0) (Has.t rfl) .nil)) ?_
  refine Tri.seq fun K1 hK1 => ?_
  refine Tri.region ?_
  refine Ops.box (Has.t rfl) rfl fun b1 => ?_
  refine Ops.alloc [isB false, nilS] zero112 (fun _ _ => ⟨rfl, rfl, trivial⟩) rfl fun b2 => ?_
  refine nl ?_
  refine At.thn (hK1 _ _ ?_); clear hK1
  refine Tri.seq fun K2 hK2 => ?_
  refine Tri.region ?_
  refine st (OK1.fieldAddr (Has.t rfl) fld112_1 ty32) rfl ?_
  refine st (OK1.load1 (Has.t rfl) (i := 1) rfl ty32 rfl) rfl ?_
  refine st (OK1.call (ref01_Trim (by first | with_reducible assumption | omega | with_reducible exact d_words_ok _ | with_reducible exact lineL_le _ _ _ _ | (simp only [dv_abs, d_val_words, dval_line]; omega) | (rw [lineL_len]; omega))) (.cons (Has.t rfl) .nil)) rfl ?_
  refine st (OK1.as (Has.t rfl)) rfl ?_
  refine nl ?_
  refine At.thn (hK2 _ _ ?_); clear hK2
  refine Tri.seq fun K3 hK3 => ?_
  refine Tri.region ?_
  refine st (OK1.fieldAddr (Has.t rfl) fld112_0 ty4) rfl ?_
  refine st (OK1.load1 (Has.t rfl) (i := 1) rfl ty4 rfl) rfl ?_
  refine st (OK1.mv (Has.t rfl)) rfl ?_
  refine stT rfl rfl (fun hg => have hg' := BP.t hg; OK1.mv (Has.t rfl)) rfl ?_
  refine stT rfl rfl (fun hg => have hg' := BP.t hg; OK1.len sl32 (Has.g rfl hg)) rfl ?_
  refine stT rfl rfl (fun hg => have hg' := BP.t hg; OK1.gtI (Has.g rfl hg) (Has.cI 0 rfl)) rfl ?_
  refine st (OK1.pickAnd (Has.t rfl) (fun h => Has.g rfl h)) rfl ?_
  refine st (OK1.mv (Has.t rfl)) rfl ?_
  refine st (OK1.build [isB false, nilS] pl112 zero112 (fun _ _ => ⟨rfl, rfl, trivial⟩) (.cons (Has.t rfl) rfl rfl rfl (.cons (Has.t rfl) rfl rfl rfl .nil)) (Z'' := [_, _]) rfl) rfl ?_
  refine Ops.store (Has.t rfl) (Has.t rfl) (i := 0) rfl ty112 rfl rfl (Ss' := [_, _]) rfl (M' := [(some _, cellM [_, _]), _]) rfl ?_
  refine nl ?_
  refine At.thn (hK3 _ _ ?_); clear hK3
  refine Tri.cv (Cv.wk (.cons (t := 2) (Has.t rfl) .nil)) ?_
  refine Tri.ret ?_
  refine rt1 (.inl rfl) Try.results132 rfl (.cell rfl (i := 0) rfl ty112 rfl ?_ .nil)
  · exact isR_of (norm_neg m ds) (by rw [dv_abs])

set_option maxHeartbeats 4000000 in
theorem ref05_From {m : Bool} {xs : List Nat} (hx : xs.length ≤ 268435456) : Ctr Try.prog 97 [Flat [isB m, SlM isU xs]] (isR (zv m xs)) := by
  refine Ctr.intro Try.func97 rfl (by kernel_rfl) Try.ntmps97 rfl fun w0 F0 => ?_
  refine Tri.cv (Cv.wk (.cons (t := 0) (Has.t rfl) .nil)) ?_
  refine Tri.fact (Has.okZ (Has.t (t := 0) rfl)) fun okz0 => ?_
  refine Tri.seq fun K1 hK1 => ?_
  refine Tri.region ?_
  refine Ops.box (Has.t rfl) rfl fun b1 => ?_
  refine Ops.alloc [isB false, nilS] zero112 (fun _ _ => ⟨rfl, rfl, trivial⟩) rfl fun b2 => ?_
  refine nl ?_
  refine At.thn (hK1 _ _ ?_); clear hK1
  refine Tri.seq fun K2 hK2 => ?_
  refine Tri.dr ?_
  refine DrG.st (i := 0) [] rfl rfl rfl (by kernel_rfl) (OKG.o rfl (OK1.fieldAddr (Has.t rfl) fld55_0 ty4)) ?_
  refine DrG.st (i := 1) [3] rfl rfl rfl (by kernel_rfl) (OKG.o rfl (OK1.load1 (Has.t rfl) (i := 1) rfl ty4 rfl)) ?_
  refine DrG.st (i := 2) [] rfl rfl rfl (by kernel_rfl) (OKG.o rfl (OK1.fieldAddr (Has.t rfl) fld55_1 ty53)) ?_
  refine DrG.st (i := 3) [5] rfl rfl rfl (by kernel_rfl) (OKG.o rfl (OK1.load1 (Has.t rfl) (i := 1) rfl ty53 rfl)) ?_
  refine DrG.st (i := 4) [6] rfl rfl rfl (by kernel_rfl) (OKG.o rfl (OK1.call (ref01_From (by first | with_reducible assumption | omega | with_reducible exact d_words_ok _ | with_reducible exact lineL_le _ _ _ _ | (simp only [dv_abs, d_val_words, dval_line]; omega) | (rw [lineL_len]; omega))) (.cons (Has.t rfl) .nil))) ?_
  refine DrG.fin (n := 5) mixed (by kernel_rfl) (by kernel_rfl) (by kernel_rfl) ?_
  refine Ops.cv (Cv.wk (.cons (t := 2) (Has.t rfl) (.cons (t := 4) (Has.t rfl) (.cons (t := 7) (Has.t rfl) .nil)))) ?_
  refine st (OK1.build [isB false, nilS] pl112 zero112 (fun _ _ => ⟨rfl, rfl, trivial⟩) (.cons (Has.t rfl) rfl rfl rfl (.cons (Has.t rfl) rfl rfl rfl .nil)) (Z'' := [_, _]) rfl) rfl ?_
  refine st (OK1.call (ref05_norm (by first | with_reducible assumption | omega | with_reducible exact d_words_ok _ | with_reducible exact lineL_le _ _ _ _ | (simp only [dv_abs, d_val_words, dval_line]; omega) | (rw [lineL_len]; omega))) (.cons (Has.t rfl) .nil)) rfl ?_
  refine Ops.store (Has.t rfl) (Has.t rfl) (i := 0) rfl ty112 rfl rfl (Ss' := [_, _]) rfl (M' := [(some _, cellM [_, _]), _]) rfl ?_
  refine nl ?_
  refine At.thn (hK2 _ _ ?_); clear hK2
  refine Tri.ret ?_
  refine rt1 (.inl rfl) Try.results97 rfl (.cell rfl (i := 0) rfl ty112 rfl ?_ .nil)
  · exact isR_eq (by rw [dv_digs]; rfl)

set_option maxHeartbeats 4000000 in
theorem ref05_Sign {x : Int} (hx : (List.length (digs x.natAbs)) ≤ 1000000) : Ctr Try.prog 98 [isR x] (isI (sgn x)) := by
  refine Ctr.intro Try.func98 rfl (by kernel_rfl) Try.ntmps98 rfl fun w0 F0 => ?_
  refine Tri.cv (Cv.wk (.cons (t := 0) (Has.t rfl) .nil)) ?_
  refine Tri.seq fun K1 hK1 => ?_
  refine Tri.region ?_
  refine Ops.box (Has.t rfl) rfl fun b1 => ?_
  refine st (OK1.as (Has.cI 0 rfl)) rfl ?_
  refine nl ?_
  refine At.thn (hK1 _ _ ?_); clear hK1
  refine Tri.seq fun K2 hK2 => ?_
  refine Tri.seq fun K3 hK3 => ?_
  refine Tri.region ?_
  refine st (OK1.fieldAddr (Has.t rfl) fld112_1 ty32) rfl ?_
  refine st (OK1.load1 (Has.t rfl) (i := 0) rfl ty32 rfl) rfl ?_
  refine st (OK1.len sl32 (Has.t rfl)) rfl ?_
  refine st (OK1.eqI (Has.t rfl) (Has.cI 0 rfl)) rfl ?_
  refine nl ?_
  refine At.thn (hK3 _ _ ?_); clear hK3
  refine Tri.cond (Has.t rfl) (fun hc1 => ?_) (fun hc1 => ?_)
  · have hc1 := BP.t hc1
    refine Tri.seq fun K4 hK4 => ?_
    refine Tri.region ?_
    refine st (OK1.as (Has.cI 0 rfl)) rfl ?_
    refine nl ?_
    refine At.thn (hK4 _ _ ?_); clear hK4
    refine Tri.cv (Cv.wk (.cons (t := 1) (Has.t rfl) (.cons (t := 2) (Has.t rfl) .nil))) ?_
    refine Tri.ret ?_
    refine At.thr ?_
    refine rt1 (.inl rfl) Try.results98 rfl (.tmp (Has.t' rfl ?_) .nil)
    all_goals (exact isI_eq (dsgn0 hc1))
  · have hc1 := BP.f hc1
    have hn := dsgn1 hc1
    refine Tri.skip ?_
    refine At.thn (hK2 _ _ ?_); clear hK2
    refine Tri.cv (Cv.wk (.cons (t := 1) (Has.t rfl) (.cons (t := 2) (Has.t rfl) .nil))) ?_
    refine Tri.seq fun K5 hK5 => ?_
    refine Tri.seq fun K6 hK6 => ?_
    refine Tri.region ?_
    refine st (OK1.fieldAddr (Has.t rfl) fld112_0 ty4) rfl ?_
    refine st (OK1.load1 (Has.t rfl) (i := 0) rfl ty4 rfl) rfl ?_
    refine nl ?_
    refine At.thn (hK6 _ _ ?_); clear hK6
    refine Tri.cond (Has.t rfl) (fun hc2 => ?_) (fun hc2 => ?_)
    · have hc2 := BP.t hc2
      have HM : x < 0 := (by simpa using hc2)
      refine Tri.seq fun K7 hK7 => ?_
      refine Tri.region ?_
      refine st (OK1.as (Has.cI (-1) rfl)) rfl ?_
      refine nl ?_
      refine At.thn (hK7 _ _ ?_); clear hK7
      refine Tri.ret ?_
      refine At.thr ?_
      refine rt1 (.inl rfl) Try.results98 rfl (.tmp (Has.t' rfl ?_) .nil)
      all_goals (exact isI_eq (by unfold sgn; rw [if_neg hn, if_pos HM]))
    · have hc2 := BP.f hc2
      have HM : ¬ x < 0 := (by simpa using hc2)
      refine Tri.skip ?_
      refine At.thn (hK5 _ _ ?_); clear hK5
      refine Tri.seq fun K8 hK8 => ?_
      refine Tri.region ?_
      refine st (OK1.as (Has.cI 1 rfl)) rfl ?_
      refine nl ?_
      refine At.thn (hK8 _ _ ?_); clear hK8
      refine Tri.ret ?_
      refine rt1 (.inl rfl) Try.results98 rfl (.tmp (Has.t' rfl ?_) .nil)
      all_goals (exact isI_eq (by unfold sgn; rw [if_neg hn, if_neg HM]))

set_option maxHeartbeats 4000000 in
theorem ref05_Neg {x : Int} (hx : (List.length (digs x.natAbs)) ≤ 1000000) : Ctr Try.prog 137 [isR x] (isR (-x)) := by
  refine Ctr.intro Try.func137 rfl (by kernel_rfl) Try.ntmps137 rfl fun w0 F0 => ?_
  refine Tri.cv (Cv.wk (.cons (t := 0) (Has.t rfl) .nil)) ?_
  refine Tri.seq fun K1 hK1 => ?_
  refine Tri.region ?_
  refine Ops.box (Has.t rfl) rfl fun b1 => ?_
  refine Ops.alloc [isB false, nilS] zero112 (fun _ _ => ⟨rfl, rfl, trivial⟩) rfl fun b2 => ?_
  refine nl ?_
  refine At.thn (hK1 _ _ ?_); clear hK1
  refine Tri.seq fun K2 hK2 => ?_
  refine Tri.region ?_
  refine st (OK1.fieldAddr (Has.t rfl) fld112_0 ty4) rfl ?_
  refine st (OK1.load1 (Has.t rfl) (i := 1) rfl ty4 rfl) rfl ?_
  refine st (OK1.not (Has.t rfl)) rfl ?_
  refine st (OK1.fieldAddr (Has.t rfl) fld112_1 ty32) rfl ?_
  refine st (OK1.load1 (Has.t rfl) (i := 1) rfl ty32 rfl) rfl ?_
  refine st (OK1.build [isB false, nilS] pl112 zero112 (fun _ _ => ⟨rfl, rfl, trivial⟩) (.cons (Has.t rfl) rfl rfl rfl (.cons (Has.t rfl) rfl rfl rfl .nil)) (Z'' := [_, _]) rfl) rfl ?_
  refine st (OK1.call (ref05_norm (by first | with_reducible assumption | omega | with_reducible exact d_words_ok _ | with_reducible exact lineL_le _ _ _ _ | (simp only [dv_abs, d_val_words, dval_line]; omega) | (rw [lineL_len]; omega))) (.cons (Has.t rfl) .nil)) rfl ?_
  refine Ops.store (Has.t rfl) (Has.t rfl) (i := 0) rfl ty112 rfl rfl (Ss' := [_, _]) rfl (M' := [(some _, cellM [_, _]), _]) rfl ?_
  refine nl ?_
  refine At.thn (hK2 _ _ ?_); clear hK2
  refine Tri.cv (Cv.wk (.cons (t := 2) (Has.t rfl) .nil)) ?_
  refine Tri.ret ?_
  refine rt1 (.inl rfl) Try.results137 rfl (.cell rfl (i := 0) rfl ty112 rfl ?_ .nil)
  · exact isR_eq (dv_not x)

set_option maxHeartbeats 4000000 in
theorem ref05_Abs {x : Int} : Ctr Try.prog 102 [isR x] (isR ((x.natAbs : Nat) : Int)) := by
  refine Ctr.intro Try.func102 rfl (by kernel_rfl) Try.ntmps102 rfl fun w0 F0 => ?_
  refine Tri.cv (Cv.wk (.cons (t := 0) (Has.t rfl) .nil)) ?_
  refine Tri.seq fun K1 hK1 => ?_
  refine Tri.region ?_
  refine Ops.box (Has.t rfl) rfl fun b1 => ?_
  refine Ops.alloc [isB false, nilS] zero112 (fun _ _ => ⟨rfl, rfl, trivial⟩) rfl fun b2 => ?_
  refine nl ?_
  refine At.thn (hK1 _ _ ?_); clear hK1
  refine Tri.seq fun K2 hK2 => ?_
  refine Tri.region ?_
  refine st (OK1.fieldAddr (Has.t rfl) fld112_1 ty32) rfl ?_
  refine st (OK1.load1 (Has.t rfl) (i := 1) rfl ty32 rfl) rfl ?_
  refine st (OK1.build [isB false, nilS] pl112 zero112 (fun _ _ => ⟨rfl, rfl, trivial⟩) (.cons (Has.t rfl) rfl rfl rfl .nil) (Z'' := [_, _]) rfl) rfl ?_
  refine Ops.store (Has.t rfl) (Has.t rfl) (i := 0) rfl ty112 rfl rfl (Ss' := [_, _]) rfl (M' := [(some _, cellM [_, _]), _]) rfl ?_
  refine nl ?_
  refine At.thn (hK2 _ _ ?_); clear hK2
  refine Tri.cv (Cv.wk (.cons (t := 2) (Has.t rfl) .nil)) ?_
  refine Tri.ret ?_
  refine rt1 (.inl rfl) Try.results102 rfl (.cell rfl (i := 0) rfl ty112 rfl ?_ .nil)
  · exact isR_of (decide_eq_false (by omega)).symm (by rw [Int.natAbs_natCast])

set_option maxHeartbeats 4000000 in
theorem ref05_Add {x y : Int} (hx : (List.length (digs x.natAbs)) ≤ 1000000) (hy : (List.length (digs y.natAbs)) ≤ 1000000) : Ctr Try.prog 136 [isR x, isR y] (isR (x + y)) := by
  refine Ctr.intro Try.func136 rfl (by kernel_rfl) Try.ntmps136 rfl fun w0 F0 => ?_
  refine Tri.cv (Cv.wk (.cons (t := 0) (Has.t rfl) (.cons (t := 1) (Has.t rfl) .nil))) ?_
  refine Tri.seq fun K1 hK1 => ?_
  refine Tri.region ?_
  refine Ops.box (Has.t rfl) rfl fun b1 => ?_
  refine Ops.box (Has.t rfl) rfl fun b2 => ?_
  refine Ops.alloc [isB false, nilS] zero112 (fun _ _ => ⟨rfl, rfl, trivial⟩) rfl fun b3 => ?_
  refine nl ?_
  refine At.thn (hK1 _ _ ?_); clear hK1
  refine Tri.seq fun K2 hK2 => ?_
  refine Tri.seq fun K3 hK3 => ?_
  refine Tri.region ?_
  refine st (OK1.fieldAddr (Has.t rfl) fld112_0 ty4) rfl ?_
  refine st (OK1.load1 (Has.t rfl) (i := 2) rfl ty4 rfl) rfl ?_
  refine st (OK1.fieldAddr (Has.t rfl) fld112_0 ty4) rfl ?_
  refine st (OK1.load1 (Has.t rfl) (i := 1) rfl ty4 rfl) rfl ?_
  refine st (OK1.eqB (du := un4) rfl (Has.t rfl) (Has.t rfl)) rfl ?_
  refine nl ?_
  refine At.thn (hK3 _ _ ?_); clear hK3
  refine Tri.cv (Cv.wk (.cons (t := 2) (Has.t rfl) (.cons (t := 3) (Has.t rfl) (.cons (t := 4) (Has.t rfl) (.cons (t := 9) (Has.t rfl) .nil))))) ?_
  refine Tri.cond (Has.t rfl) (fun hc1 => ?_) (fun hc1 => ?_)
  · have hc1 := BP.t hc1
    have HM : (decide (x < 0) == decide (y < 0)) = true := hc1
    refine Tri.seq fun K4 hK4 => ?_
    refine Tri.dr ?_
    refine DrG.st (i := 0) [] rfl rfl rfl (by kernel_rfl) (OKG.o rfl (OK1.fieldAddr (Has.t rfl) fld112_0 ty4)) ?_
    refine DrG.st (i := 1) [10] rfl rfl rfl (by kernel_rfl) (OKG.o rfl (OK1.load1 (Has.t rfl) (i := 2) rfl ty4 rfl)) ?_
    refine DrG.st (i := 2) [] rfl rfl rfl (by kernel_rfl) (OKG.o rfl (OK1.fieldAddr (Has.t rfl) fld112_1 ty32)) ?_
    refine DrG.st (i := 3) [12] rfl rfl rfl (by kernel_rfl) (OKG.o rfl (OK1.load1 (Has.t rfl) (i := 2) rfl ty32 rfl)) ?_
    refine DrG.st (i := 4) [] rfl rfl rfl (by kernel_rfl) (OKG.o rfl (OK1.fieldAddr (Has.t rfl) fld112_1 ty32)) ?_
    refine DrG.st (i := 5) [14] rfl rfl rfl (by kernel_rfl) (OKG.o rfl (OK1.load1 (Has.t rfl) (i := 1) rfl ty32 rfl)) ?_
    refine DrG.st (i := 6) [13, 15] rfl rfl rfl (by kernel_rfl) (OKG.o rfl (OK1.call (ref01_Add (by first | with_reducible assumption | omega | with_reducible exact d_words_ok _ | with_reducible exact lineL_le _ _ _ _ | (simp only [dv_abs, d_val_words, dval_line]; omega) | (rw [lineL_len]; omega)) (by first | with_reducible assumption | omega | with_reducible exact d_words_ok _ | with_reducible exact lineL_le _ _ _ _ | (simp only [dv_abs, d_val_words, dval_line]; omega) | (rw [lineL_len]; omega))) (.cons (Has.t rfl) (.cons (Has.t rfl) .nil)))) ?_
    refine DrG.fin (n := 7) mixed (by kernel_rfl) (by kernel_rfl) (by kernel_rfl) ?_
    refine Ops.cv (Cv.wk (.cons (t := 2) (Has.t rfl) (.cons (t := 3) (Has.t rfl) (.cons (t := 4) (Has.t rfl) (.cons (t := 11) (Has.t rfl) (.cons (t := 16) (Has.t rfl) .nil)))))) ?_
    refine st (OK1.build [isB false, nilS] pl112 zero112 (fun _ _ => ⟨rfl, rfl, trivial⟩) (.cons (Has.t rfl) rfl rfl rfl (.cons (Has.t rfl) rfl rfl rfl .nil)) (Z'' := [_, _]) rfl) rfl ?_
    refine st (OK1.call (ref05_norm (by first | with_reducible assumption | omega | with_reducible exact d_words_ok _ | with_reducible exact lineL_le _ _ _ _ | (simp only [dv_abs, d_val_words, dval_line]; omega) | (rw [lineL_len]; omega))) (.cons (Has.t rfl) .nil)) rfl ?_
    refine Ops.store (Has.t rfl) (Has.t rfl) (i := 0) rfl ty112 rfl rfl (Ss' := [_, _]) rfl (M' := [(some _, cellM [_, _]), _, _]) rfl ?_
    refine nl ?_
    refine At.thn (hK4 _ _ ?_); clear hK4
    refine Tri.ret ?_
    refine At.thr ?_
    refine rt1 (.inl rfl) Try.results136 rfl (.cell rfl (i := 0) rfl ty112 rfl ?_ .nil)
    · exact isR_eq (dv_add_same HM)
  · have hc1 := BP.f hc1
    have HM : (decide (x < 0) == decide (y < 0)) = false := (by simpa using hc1)
    refine Tri.skip ?_
    refine At.thn (hK2 _ _ ?_); clear hK2
    refine Tri.seq fun K5 hK5 => ?_
    refine Tri.seq fun K6 hK6 => ?_
    refine Tri.region ?_
    refine st (OK1.fieldAddr (Has.t rfl) fld112_1 ty32) rfl ?_
    refine st (OK1.load1 (Has.t rfl) (i := 2) rfl ty32 rfl) rfl ?_
    refine st (OK1.fieldAddr (Has.t rfl) fld112_1 ty32) rfl ?_
    refine st (OK1.load1 (Has.t rfl) (i := 1) rfl ty32 rfl) rfl ?_
    refine st (OK1.call (ref01_Cmp (by first | with_reducible assumption | omega | with_reducible exact d_words_ok _ | with_reducible exact lineL_le _ _ _ _ | (simp only [dv_abs, d_val_words, dval_line]; omega) | (rw [lineL_len]; omega)) (by first | with_reducible assumption | omega | with_reducible exact d_words_ok _ | with_reducible exact lineL_le _ _ _ _ | (simp only [dv_abs, d_val_words, dval_line]; omega) | (rw [lineL_len]; omega))) (.cons (Has.t rfl) (.cons (Has.t rfl) .nil))) rfl ?_
    refine st (OK1.geI (Has.t rfl) (Has.cI 0 rfl)) rfl ?_
    refine nl ?_
    refine At.thn (hK6 _ _ ?_); clear hK6
    refine Tri.cv (Cv.wk (.cons (t := 2) (Has.t rfl) (.cons (t := 3) (Has.t rfl) (.cons (t := 4) (Has.t rfl) (.cons (t := 24) (Has.t rfl) .nil))))) ?_
    refine Tri.cond (Has.t rfl) (fun hc2 => ?_) (fun hc2 => ?_)
    · have hc2 := BP.t hc2
      have HL := cmpN_nn hc2
      refine Tri.seq fun K7 hK7 => ?_
      refine Tri.dr ?_
      refine DrG.st (i := 0) [] rfl rfl rfl (by kernel_rfl) (OKG.o rfl (OK1.fieldAddr (Has.t rfl) fld112_0 ty4)) ?_
      refine DrG.st (i := 1) [25] rfl rfl rfl (by kernel_rfl) (OKG.o rfl (OK1.load1 (Has.t rfl) (i := 2) rfl ty4 rfl)) ?_
      refine DrG.st (i := 2) [] rfl rfl rfl (by kernel_rfl) (OKG.o rfl (OK1.fieldAddr (Has.t rfl) fld112_1 ty32)) ?_
      refine DrG.st (i := 3) [27] rfl rfl rfl (by kernel_rfl) (OKG.o rfl (OK1.load1 (Has.t rfl) (i := 2) rfl ty32 rfl)) ?_
      refine DrG.st (i := 4) [] rfl rfl rfl (by kernel_rfl) (OKG.o rfl (OK1.fieldAddr (Has.t rfl) fld112_1 ty32)) ?_
      refine DrG.st (i := 5) [29] rfl rfl rfl (by kernel_rfl) (OKG.o rfl (OK1.load1 (Has.t rfl) (i := 1) rfl ty32 rfl)) ?_
      refine DrG.st (i := 6) [28, 30] rfl rfl rfl (by kernel_rfl) (OKG.o rfl (OK1.call (ref01_Sub (by first | with_reducible assumption | omega | with_reducible exact d_words_ok _ | with_reducible exact lineL_le _ _ _ _ | (simp only [dv_abs, d_val_words, dval_line]; omega) | (rw [lineL_len]; omega)) (by first | with_reducible assumption | omega | with_reducible exact d_words_ok _ | with_reducible exact lineL_le _ _ _ _ | (simp only [dv_abs, d_val_words, dval_line]; omega) | (rw [lineL_len]; omega))) (.cons (Has.t rfl) (.cons (Has.t rfl) .nil)))) ?_
      refine DrG.fin (n := 7) mixed (by kernel_rfl) (by kernel_rfl) (by kernel_rfl) ?_
      refine Ops.cv (Cv.wk (.cons (t := 2) (Has.t rfl) (.cons (t := 3) (Has.t rfl) (.cons (t := 4) (Has.t rfl) (.cons (t := 26) (Has.t rfl) (.cons (t := 31) (Has.t rfl) .nil)))))) ?_
      refine st (OK1.build [isB false, nilS] pl112 zero112 (fun _ _ => ⟨rfl, rfl, trivial⟩) (.cons (Has.t rfl) rfl rfl rfl (.cons (Has.t rfl) rfl rfl rfl .nil)) (Z'' := [_, _]) rfl) rfl ?_
      refine st (OK1.call (ref05_norm (by first | with_reducible assumption | omega | with_reducible exact d_words_ok _ | with_reducible exact lineL_le _ _ _ _ | (simp only [dv_abs, d_val_words, dval_line]; omega) | (rw [lineL_len]; omega))) (.cons (Has.t rfl) .nil)) rfl ?_
      refine Ops.store (Has.t rfl) (Has.t rfl) (i := 0) rfl ty112 rfl rfl (Ss' := [_, _]) rfl (M' := [(some _, cellM [_, _]), _, _]) rfl ?_
      refine nl ?_
      refine At.thn (hK7 _ _ ?_); clear hK7
      refine Tri.ret ?_
      refine At.thr ?_
      refine rt1 (.inl rfl) Try.results136 rfl (.cell rfl (i := 0) rfl ty112 rfl ?_ .nil)
      · exact isR_eq (dv_add_sub HM HL)
    · have hc2 := BP.f hc2
      have HL := cmpN_neg.1 hc2
      refine Tri.skip ?_
      refine At.thn (hK5 _ _ ?_); clear hK5
      refine Tri.seq fun K8 hK8 => ?_
      refine Tri.dr ?_
      refine DrG.st (i := 0) [] rfl rfl rfl (by kernel_rfl) (OKG.o rfl (OK1.fieldAddr (Has.t rfl) fld112_0 ty4)) ?_
      refine DrG.st (i := 1) [34] rfl rfl rfl (by kernel_rfl) (OKG.o rfl (OK1.load1 (Has.t rfl) (i := 1) rfl ty4 rfl)) ?_
      refine DrG.st (i := 2) [] rfl rfl rfl (by kernel_rfl) (OKG.o rfl (OK1.fieldAddr (Has.t rfl) fld112_1 ty32)) ?_
      refine DrG.st (i := 3) [36] rfl rfl rfl (by kernel_rfl) (OKG.o rfl (OK1.load1 (Has.t rfl) (i := 1) rfl ty32 rfl)) ?_
      refine DrG.st (i := 4) [] rfl rfl rfl (by kernel_rfl) (OKG.o rfl (OK1.fieldAddr (Has.t rfl) fld112_1 ty32)) ?_
      refine DrG.st (i := 5) [38] rfl rfl rfl (by kernel_rfl) (OKG.o rfl (OK1.load1 (Has.t rfl) (i := 2) rfl ty32 rfl)) ?_
      refine DrG.st (i := 6) [37, 39] rfl rfl rfl (by kernel_rfl) (OKG.o rfl (OK1.call (ref01_Sub (by first | with_reducible assumption | omega | with_reducible exact d_words_ok _ | with_reducible exact lineL_le _ _ _ _ | (simp only [dv_abs, d_val_words, dval_line]; omega) | (rw [lineL_len]; omega)) (by first | with_reducible assumption | omega | with_reducible exact d_words_ok _ | with_reducible exact lineL_le _ _ _ _ | (simp only [dv_abs, d_val_words, dval_line]; omega) | (rw [lineL_len]; omega))) (.cons (Has.t rfl) (.cons (Has.t rfl) .nil)))) ?_
      refine DrG.fin (n := 7) mixed (by kernel_rfl) (by kernel_rfl) (by kernel_rfl) ?_
      refine Ops.cv (Cv.wk (.cons (t := 4) (Has.t rfl) (.cons (t := 35) (Has.t rfl) (.cons (t := 40) (Has.t rfl) .nil)))) ?_
      refine st (OK1.build [isB false, nilS] pl112 zero112 (fun _ _ => ⟨rfl, rfl, trivial⟩) (.cons (Has.t rfl) rfl rfl rfl (.cons (Has.t rfl) rfl rfl rfl .nil)) (Z'' := [_, _]) rfl) rfl ?_
      refine st (OK1.call (ref05_norm (by first | with_reducible assumption | omega | with_reducible exact d_words_ok _ | with_reducible exact lineL_le _ _ _ _ | (simp only [dv_abs, d_val_words, dval_line]; omega) | (rw [lineL_len]; omega))) (.cons (Has.t rfl) .nil)) rfl ?_
      refine Ops.store (Has.t rfl) (Has.t rfl) (i := 0) rfl ty112 rfl rfl (Ss' := [_, _]) rfl (M' := [(some _, cellM [_, _]), _, _]) rfl ?_
      refine nl ?_
      refine At.thn (hK8 _ _ ?_); clear hK8
      refine Tri.ret ?_
      refine rt1 (.inl rfl) Try.results136 rfl (.cell rfl (i := 0) rfl ty112 rfl ?_ .nil)
      · exact isR_eq (by rw [Int.add_comm]; exact dv_add_sub (by rw [Bool.beq_comm]; exact HM) (by omega))

set_option maxHeartbeats 4000000 in
theorem ref05_Sub {x y : Int} (hx : (List.length (digs x.natAbs)) ≤ 1000000) (hy : (List.length (digs y.natAbs)) ≤ 1000000) : Ctr Try.prog 101 [isR x, isR y] (isR (x - y)) := by
  refine Ctr.intro Try.func101 rfl (by kernel_rfl) Try.ntmps101 rfl fun w0 F0 => ?_
  refine Tri.cv (Cv.wk (.cons (t := 0) (Has.t rfl) (.cons (t := 1) (Has.t rfl) .nil))) ?_
  refine Tri.seq fun K1 hK1 => ?_
  refine Tri.region ?_
  refine Ops.box (Has.t rfl) rfl fun b1 => ?_
  refine Ops.box (Has.t rfl) rfl fun b2 => ?_
  refine Ops.alloc [isB false, nilS] zero112 (fun _ _ => ⟨rfl, rfl, trivial⟩) rfl fun b3 => ?_
  refine nl ?_
  refine At.thn (hK1 _ _ ?_); clear hK1
  refine Tri.seq fun K2 hK2 => ?_
  refine Tri.dr ?_
  refine DrG.st (i := 0) [] rfl rfl rfl (by kernel_rfl) (OKG.o rfl (OK1.load (Has.t rfl) (i := 2) rfl ty112 rfl (Ss' := [_, _]) rfl)) ?_
  refine DrG.st (i := 1) [] rfl rfl rfl (by kernel_rfl) (OKG.o rfl (OK1.load (Has.t rfl) (i := 1) rfl ty112 rfl (Ss' := [_, _]) rfl)) ?_
  refine DrG.st (i := 2) [6] rfl rfl rfl (by kernel_rfl) (OKG.o rfl (OK1.call (ref05_Neg (by first | with_reducible assumption | omega | (rw [Int.natAbs_neg]; omega))) (.cons (Has.t rfl) .nil))) ?_
  refine DrG.fin (n := 3) mixed (by kernel_rfl) (by kernel_rfl) (by kernel_rfl) ?_
  refine Ops.cv (Cv.wk (.cons (t := 4) (Has.t rfl) (.cons (t := 5) (Has.t rfl) (.cons (t := 7) (Has.t rfl) .nil)))) ?_
  refine st (OK1.call (ref05_Add (by first | with_reducible assumption | omega | (rw [Int.natAbs_neg]; omega)) (by first | with_reducible assumption | omega | (rw [Int.natAbs_neg]; omega))) (.cons (Has.t rfl) (.cons (Has.t rfl) .nil))) rfl ?_
  refine Ops.store (Has.t rfl) (Has.t rfl) (i := 0) rfl ty112 rfl rfl (Ss' := [_, _]) rfl (M' := [(some _, cellM [_, _]), _, _]) rfl ?_
  refine nl ?_
  refine At.thn (hK2 _ _ ?_); clear hK2
  refine Tri.ret ?_
  refine rt1 (.inl rfl) Try.results101 rfl (.cell rfl (i := 0) rfl ty112 rfl ?_ .nil)
  · exact isR_eq (by omega)

set_option maxHeartbeats 4000000 in
theorem ref05_Mul {x y : Int} (hx : (List.length (digs x.natAbs)) ≤ 1000000) (hy : (List.length (digs y.natAbs)) ≤ 1000000) : Ctr Try.prog 135 [isR x, isR y] (isR (x * y)) := by
  refine Ctr.intro Try.func135 rfl (by kernel_rfl) Try.ntmps135 rfl fun w0 F0 => ?_
  refine Tri.cv (Cv.wk (.cons (t := 0) (Has.t rfl) (.cons (t := 1) (Has.t rfl) .nil))) ?_
  refine Tri.seq fun K1 hK1 => ?_
  refine Tri.region ?_
  refine Ops.box (Has.t rfl) rfl fun b1 => ?_
  refine Ops.box (Has.t rfl) rfl fun b2 => ?_
  refine Ops.alloc [isB false, nilS] zero112 (fun _ _ => ⟨rfl, rfl, trivial⟩) rfl fun b3 => ?_
  refine nl ?_
  refine At.thn (hK1 _ _ ?_); clear hK1
  refine Tri.seq fun K2 hK2 => ?_
  refine Tri.dr ?_
  refine DrG.st (i := 0) [] rfl rfl rfl (by kernel_rfl) (OKG.o rfl (OK1.fieldAddr (Has.t rfl) fld112_0 ty4)) ?_
  refine DrG.st (i := 1) [5] rfl rfl rfl (by kernel_rfl) (OKG.o rfl (OK1.load1 (Has.t rfl) (i := 2) rfl ty4 rfl)) ?_
  refine DrG.st (i := 2) [] rfl rfl rfl (by kernel_rfl) (OKG.o rfl (OK1.fieldAddr (Has.t rfl) fld112_0 ty4)) ?_
  refine DrG.st (i := 3) [7] rfl rfl rfl (by kernel_rfl) (OKG.o rfl (OK1.load1 (Has.t rfl) (i := 1) rfl ty4 rfl)) ?_
  refine DrG.st (i := 4) [6, 8] rfl rfl rfl (by kernel_rfl) (OKG.o rfl (OK1.neB (du := un4) rfl (Has.t rfl) (Has.t rfl))) ?_
  refine DrG.st (i := 5) [] rfl rfl rfl (by kernel_rfl) (OKG.o rfl (OK1.fieldAddr (Has.t rfl) fld112_1 ty32)) ?_
  refine DrG.st (i := 6) [10] rfl rfl rfl (by kernel_rfl) (OKG.o rfl (OK1.load1 (Has.t rfl) (i := 2) rfl ty32 rfl)) ?_
  refine DrG.st (i := 7) [] rfl rfl rfl (by kernel_rfl) (OKG.o rfl (OK1.fieldAddr (Has.t rfl) fld112_1 ty32)) ?_
  refine DrG.st (i := 8) [12] rfl rfl rfl (by kernel_rfl) (OKG.o rfl (OK1.load1 (Has.t rfl) (i := 1) rfl ty32 rfl)) ?_
  refine DrG.st (i := 9) [11, 13] rfl rfl rfl (by kernel_rfl) (OKG.o rfl (OK1.call (ref01_Mul (by first | with_reducible assumption | omega | with_reducible exact d_words_ok _ | with_reducible exact lineL_le _ _ _ _ | (simp only [dv_abs, d_val_words, dval_line]; omega) | (rw [lineL_len]; omega)) (by first | with_reducible assumption | omega | with_reducible exact d_words_ok _ | with_reducible exact lineL_le _ _ _ _ | (simp only [dv_abs, d_val_words, dval_line]; omega) | (rw [lineL_len]; omega))) (.cons (Has.t rfl) (.cons (Has.t rfl) .nil)))) ?_
  refine DrG.fin (n := 10) mixed (by kernel_rfl) (by kernel_rfl) (by kernel_rfl) ?_
  refine Ops.cv (Cv.wk (.cons (t := 4) (Has.t rfl) (.cons (t := 9) (Has.t rfl) (.cons (t := 14) (Has.t rfl) .nil)))) ?_
  refine st (OK1.build [isB false, nilS] pl112 zero112 (fun _ _ => ⟨rfl, rfl, trivial⟩) (.cons (Has.t rfl) rfl rfl rfl (.cons (Has.t rfl) rfl rfl rfl .nil)) (Z'' := [_, _]) rfl) rfl ?_
  refine st (OK1.call (ref05_norm (by first | with_reducible assumption | omega | with_reducible exact d_words_ok _ | with_reducible exact lineL_le _ _ _ _ | (simp only [dv_abs, d_val_words, dval_line]; omega) | (rw [lineL_len]; omega))) (.cons (Has.t rfl) .nil)) rfl ?_
  refine Ops.store (Has.t rfl) (Has.t rfl) (i := 0) rfl ty112 rfl rfl (Ss' := [_, _]) rfl (M' := [(some _, cellM [_, _]), _, _]) rfl ?_
  refine nl ?_
  refine At.thn (hK2 _ _ ?_); clear hK2
  refine Tri.ret ?_
  refine rt1 (.inl rfl) Try.results135 rfl (.cell rfl (i := 0) rfl ty112 rfl ?_ .nil)
  · exact isR_eq (dv_mul x y)

set_option maxHeartbeats 4000000 in
theorem ref05_Cmp {x y : Int} (hx : (List.length (digs x.natAbs)) ≤ 100000) (hy : (List.length (digs y.natAbs)) ≤ 100000) : Ctr Try.prog 99 [isR x, isR y] (isI (sgn (x - y))) := by
  refine Ctr.intro Try.func99 rfl (by kernel_rfl) Try.ntmps99 rfl fun w0 F0 => ?_
  refine Tri.cv (Cv.wk (.cons (t := 0) (Has.t rfl) (.cons (t := 1) (Has.t rfl) .nil))) ?_
  have h1 := zd_sub x y
  refine Tri.seq fun K1 hK1 => ?_
  refine Tri.region ?_
  refine Ops.box (Has.t rfl) rfl fun b1 => ?_
  refine Ops.box (Has.t rfl) rfl fun b2 => ?_
  refine st (OK1.as (Has.cI 0 rfl)) rfl ?_
  refine nl ?_
  refine At.thn (hK1 _ _ ?_); clear hK1
  refine Tri.seq fun K2 hK2 => ?_
  refine Tri.region ?_
  refine st (OK1.load (Has.t rfl) (i := 1) rfl ty112 rfl (Ss' := [_, _]) rfl) rfl ?_
  refine st (OK1.load (Has.t rfl) (i := 0) rfl ty112 rfl (Ss' := [_, _]) rfl) rfl ?_
  refine st (OK1.call (ref05_Sub (by first | with_reducible assumption | omega | with_reducible exact d_words_ok _ | with_reducible exact lineL_le _ _ _ _ | (simp only [dv_abs, d_val_words, dval_line]; omega) | (rw [lineL_len]; omega)) (by first | with_reducible assumption | omega | with_reducible exact d_words_ok _ | with_reducible exact lineL_le _ _ _ _ | (simp only [dv_abs, d_val_words, dval_line]; omega) | (rw [lineL_len]; omega))) (.cons (Has.t rfl) (.cons (Has.t rfl) .nil))) rfl ?_
  refine st (OK1.call (ref05_Sign (by first | with_reducible assumption | omega | with_reducible exact d_words_ok _ | with_reducible exact lineL_le _ _ _ _ | (simp only [dv_abs, d_val_words, dval_line]; omega) | (rw [lineL_len]; omega))) (.cons (Has.t rfl) .nil)) rfl ?_
  refine st (OK1.as (Has.t rfl)) rfl ?_
  refine nl ?_
  refine At.thn (hK2 _ _ ?_); clear hK2
  refine Tri.cv (Cv.wk (.cons (t := 4) (Has.t rfl) .nil)) ?_
  refine Tri.ret ?_
  refine rt1 (.inl rfl) Try.results99 rfl (.tmp (Has.t' rfl ?_) .nil)
  all_goals (rfl)

theorem flo_t {x y : Int} (hy : 0 < y) (h : dv (!(decide (x < 0) == decide (y < 0))) (digs (x.natAbs / y.natAbs)) < 0 ∨ (decide (x < 0) == decide (y < 0)) = false) : (decide (x < 0) == decide (y < 0)) = false := by
  cases hE : (decide (x < 0) == decide (y < 0)) with
  | false => rfl
  | true =>
    rcases h with h | h
    · exact absurd h (flo_sign hy hE)
    · rw [hE] at h; simp at h
theorem zd_val {xs : List Nat} (m : Bool) (h : ∀ y ∈ xs, y < 18446744073709551616) : (List.length (digs (zv m xs).natAbs)) ≤ 4 * xs.length := by
  rw [zv_abs]; exact d_nw_le (by rw [Nat.pow_mul, ← D4]; exact val_lt h)
theorem zd_mod (x : Int) {y : Int} (h : 0 < y) : (List.length (digs (x % y).natAbs)) ≤ (List.length (digs y.natAbs)) := d_nw_mono (by have := Int.emod_nonneg x (show y ≠ 0 by omega); have := Int.emod_lt_of_pos x h; omega)
theorem within_eq (x y : Int) : (decide (0 ≤ sgn x) && decide (sgn (x - y) < 0)) = decide (0 ≤ x ∧ x < y) := by
  rw [← Bool.decide_and]
  apply decide_eq_decide.2
  rw [sgn_nn, sgn_lt]; omega


set_option maxHeartbeats 4000000 in
theorem ref05_Floor {x y : Int} (hp : 0 < y) (hx : (List.length (digs x.natAbs)) ≤ 100000) (hy : (List.length (digs y.natAbs)) ≤ 100000) : Ctr Try.prog 100 [isR x, isR y] (isTup [isR (x / y), isR (x % y)]) := by
  refine Ctr.intro Try.func100 rfl (by kernel_rfl) Try.ntmps100 rfl fun w0 F0 => ?_
  refine Tri.cv (Cv.wk (.cons (t := 0) (Has.t rfl) (.cons (t := 1) (Has.t rfl) .nil))) ?_
  have hq := d_nw_mono (Nat.div_le_self x.natAbs y.natAbs)
  have hr := d_nw_mono (Nat.mod_le x.natAbs y.natAbs)
  obtain ⟨q, hqe⟩ : ∃ q, q = dv (!(decide (x < 0) == decide (y < 0))) (digs (x.natAbs / y.natAbs)) := ⟨_, rfl⟩
  have hqa : (List.length (digs q.natAbs)) ≤ 100000 := by rw [hqe, dv_abs, d_val_words]; omega
  have h1 := zd_one
  have hq1 := zd_sub q 1
  have hm := zd_mul q y
  have hm1 := zd_mul (q - 1) y
  refine Tri.seq fun K1 hK1 => ?_
  refine Tri.region ?_
  refine Ops.box (Has.t rfl) rfl fun b1 => ?_
  refine Ops.box (Has.t rfl) rfl fun b2 => ?_
  refine Ops.alloc [isB false, nilS] zero112 (fun _ _ => ⟨rfl, rfl, trivial⟩) rfl fun b3 => ?_
  refine Ops.alloc [isB false, nilS] zero112 (fun _ _ => ⟨rfl, rfl, trivial⟩) rfl fun b4 => ?_
  refine nl ?_
  refine At.thn (hK1 _ _ ?_); clear hK1
  refine Tri.seq fun K2 hK2 => ?_
  refine Tri.region ?_
  refine st (OK1.fieldAddr (Has.t rfl) fld112_1 ty32) rfl ?_
  refine st (OK1.load1 (Has.t rfl) (i := 3) rfl ty32 rfl) rfl ?_
  refine st (OK1.fieldAddr (Has.t rfl) fld112_1 ty32) rfl ?_
  refine st (OK1.load1 (Has.t rfl) (i := 2) rfl ty32 rfl) rfl ?_
  refine st (OK1.call (ref03_DivMod (by first | with_reducible assumption | omega | with_reducible exact d_words_ok _ | (simp only [dv_abs, d_val_words]; omega)) (by first | with_reducible assumption | omega | with_reducible exact d_words_ok _ | (simp only [dv_abs, d_val_words]; omega)) (by first | with_reducible assumption | omega | with_reducible exact d_words_ok _ | (simp only [dv_abs, d_val_words]; omega))) (.cons (Has.t rfl) (.cons (Has.t rfl) .nil))) rfl ?_
  refine st (OK1.mv (Has.t rfl)) rfl ?_
  refine st (OK1.ext (Has.t rfl) rfl) rfl ?_
  refine st (OK1.ext (Has.t rfl) rfl) rfl ?_
  refine st (OK1.as (Has.t rfl)) rfl ?_
  refine st (OK1.as (Has.t rfl)) rfl ?_
  refine nl ?_
  refine At.thn (hK2 _ _ ?_); clear hK2
  refine Tri.cv (Cv.wk (.cons (t := 2) (Has.t rfl) (.cons (t := 3) (Has.t rfl) (.cons (t := 4) (Has.t rfl) (.cons (t := 5) (Has.t rfl) (.cons (t := 6) (Has.t rfl) (.cons (t := 7) (Has.t rfl) .nil))))))) ?_
  refine Tri.seq fun K3 hK3 => ?_
  refine Tri.region ?_
  refine st (OK1.fieldAddr (Has.t rfl) fld112_0 ty4) rfl ?_
  refine st (OK1.load1 (Has.t rfl) (i := 3) rfl ty4 rfl) rfl ?_
  refine st (OK1.fieldAddr (Has.t rfl) fld112_0 ty4) rfl ?_
  refine st (OK1.load1 (Has.t rfl) (i := 2) rfl ty4 rfl) rfl ?_
  refine st (OK1.neB (du := un4) rfl (Has.t rfl) (Has.t rfl)) rfl ?_
  refine st (OK1.mv (Has.t rfl)) rfl ?_
  refine st (OK1.build [isB false, nilS] pl112 zero112 (fun _ _ => ⟨rfl, rfl, trivial⟩) (.cons (Has.t rfl) rfl rfl rfl (.cons (Has.t rfl) rfl rfl rfl .nil)) (Z'' := [_, _]) rfl) rfl ?_
  refine st (OK1.eq (OK1.call (ref05_norm (by first | with_reducible assumption | omega | with_reducible exact d_words_ok _ | (simp only [dv_abs, d_val_words]; omega))) (.cons (Has.t rfl) .nil)) ((show isR _ = isR q from isR_eq hqe.symm))) rfl ?_
  refine Ops.alloc [isB false, nilS] zero112 (fun _ _ => ⟨rfl, rfl, trivial⟩) rfl fun b5 => ?_
  refine Ops.store (Has.t rfl) (Has.t rfl) (i := 0) rfl ty112 rfl rfl (Ss' := [_, _]) rfl (M' := [(some _, cellM [_, _]), _, _, _, _]) rfl ?_
  refine nl ?_
  refine At.thn (hK3 _ _ ?_); clear hK3
  refine Tri.cv (Cv.wk (.cons (t := 2) (Has.t rfl) (.cons (t := 3) (Has.t rfl) (.cons (t := 4) (Has.t rfl) (.cons (t := 5) (Has.t rfl) (.cons (t := 7) (Has.t rfl) (.cons (t := 8) (Has.t rfl) .nil))))))) ?_
  refine Tri.seq fun K4 hK4 => ?_
  refine Tri.seq fun K5 hK5 => ?_
  refine Tri.region ?_
  refine st (OK1.fieldAddr (Has.t rfl) fld112_0 ty4) rfl ?_
  refine st (OK1.load1 (Has.t rfl) (i := 0) rfl ty4 rfl) rfl ?_
  refine st (OK1.mv (Has.t rfl)) rfl ?_
  refine stF rfl rfl (fun hg => have hg' := BP.t hg; OK1.fieldAddr (Has.t rfl) fld112_0 ty4) rfl ?_
  refine stF rfl rfl (fun hg => have hg' := BP.t hg; OK1.load1 (Has.g rfl hg) (i := 4) rfl ty4 rfl) rfl ?_
  refine stF rfl rfl (fun hg => have hg' := BP.t hg; OK1.fieldAddr (Has.t rfl) fld112_0 ty4) rfl ?_
  refine stF rfl rfl (fun hg => have hg' := BP.t hg; OK1.load1 (Has.g rfl hg) (i := 3) rfl ty4 rfl) rfl ?_
  refine stF rfl rfl (fun hg => have hg' := BP.t hg; OK1.neB (du := un4) rfl (Has.g rfl hg) (Has.g rfl hg)) rfl ?_
  refine st (OK1.pickOr (Has.t rfl) (fun h => Has.g rfl (ng h))) rfl ?_
  refine nl ?_
  refine At.thn (hK5 _ _ ?_); clear hK5
  refine Tri.cv (Cv.wk (.cons (t := 2) (Has.t rfl) (.cons (t := 3) (Has.t rfl) (.cons (t := 4) (Has.t rfl) (.cons (t := 5) (Has.t rfl) (.cons (t := 7) (Has.t rfl) (.cons (t := 8) (Has.t rfl) (.cons (t := 33) (Has.t rfl) .nil)))))))) ?_
  refine Tri.cond (Has.t rfl) (fun hc1 => ?_) (fun hc1 => ?_)
  · have hc1 := BP.t hc1
    have hs : (decide (x < 0) == decide (y < 0)) = false := flo_t hp (by rw [← hqe]; exact hc1)
    refine Tri.seq fun K6 hK6 => ?_
    refine Tri.region ?_
    refine st (OK1.mv (Has.t rfl)) rfl ?_
    refine st (OK1.len sl32 (Has.t rfl)) rfl ?_
    refine st (OK1.gtI (Has.t rfl) (Has.cI 0 rfl)) rfl ?_
    refine nl ?_
    refine At.thn (hK6 _ _ ?_); clear hK6
    refine Tri.cond (Has.t rfl) (fun hc2 => ?_) (fun hc2 => ?_)
    · have hc2 := BP.t hc2
      have h0 := nd_rest1 hc2
      refine Tri.region ?_
      refine st (OK1.load (Has.t rfl) (i := 0) rfl ty112 rfl (Ss' := [_, _]) rfl) rfl ?_
      refine st (OK1.eq (OK1.buildS [isI 0] sl32 ty3 zero3 (fun _ _ => ⟨⟨rfl, by decide, by decide⟩, trivial⟩) rfl rfl (.cons (Has.cI 1 rfl) rfl rfl rfl .nil) rfl (S := SlM isN [1]) rfl) ((show SlM isN [1] = SlM isN (digs 1) from SlM_eq one_digs.symm))) rfl ?_
      refine st (OK1.eq (OK1.build [isB false, nilS] pl112 zero112 (fun _ _ => ⟨rfl, rfl, trivial⟩) (.cons (Has.t rfl) rfl rfl rfl .nil) (Z'' := [_, _]) rfl) ((show Flat [isB false, SlM isN (digs 1)] = isR 1 from isR_of (by decide) rfl))) rfl ?_
      refine st (OK1.call (ref05_Sub (by first | with_reducible assumption | omega | with_reducible exact d_words_ok _ | (simp only [dv_abs, d_val_words]; omega)) (by first | with_reducible assumption | omega | with_reducible exact d_words_ok _ | (simp only [dv_abs, d_val_words]; omega))) (.cons (Has.t rfl) (.cons (Has.t rfl) .nil))) rfl ?_
      refine Ops.store (Has.t rfl) (Has.t rfl) (i := 0) rfl ty112 rfl rfl (Ss' := [_, _]) rfl (M' := [(some _, cellM [_, _]), _, _, _, _]) rfl ?_
      refine nl ?_
      refine At.thn (hK4 _ _ ?_); clear hK4
      refine Tri.cv (Cv.wk (.cons (t := 2) (Has.t rfl) (.cons (t := 3) (Has.t rfl) (.cons (t := 4) (Has.t rfl) (.cons (t := 5) (Has.t rfl) (.cons (t := 8) (Has.t rfl) .nil)))))) ?_
      refine Tri.seq fun K7 hK7 => ?_
      refine Tri.dr ?_
      refine DrG.st (i := 0) [] rfl rfl rfl (by kernel_rfl) (OKG.o rfl (OK1.load (Has.t rfl) (i := 0) rfl ty112 rfl (Ss' := [_, _]) rfl)) ?_
      refine DrG.st (i := 1) [] rfl rfl rfl (by kernel_rfl) (OKG.o rfl (OK1.load (Has.t rfl) (i := 4) rfl ty112 rfl (Ss' := [_, _]) rfl)) ?_
      refine DrG.st (i := 2) [] rfl rfl rfl (by kernel_rfl) (OKG.o rfl (OK1.load (Has.t rfl) (i := 0) rfl ty112 rfl (Ss' := [_, _]) rfl)) ?_
      refine DrG.st (i := 3) [] rfl rfl rfl (by kernel_rfl) (OKG.o rfl (OK1.load (Has.t rfl) (i := 3) rfl ty112 rfl (Ss' := [_, _]) rfl)) ?_
      refine DrG.st (i := 4) [43, 44] rfl rfl rfl (by kernel_rfl) (OKG.o rfl (OK1.call (ref05_Mul (by first | with_reducible assumption | omega | with_reducible exact d_words_ok _ | (simp only [dv_abs, d_val_words]; omega)) (by first | with_reducible assumption | omega | with_reducible exact d_words_ok _ | (simp only [dv_abs, d_val_words]; omega))) (.cons (Has.t rfl) (.cons (Has.t rfl) .nil)))) ?_
      refine DrG.st (i := 5) [42, 45] rfl rfl rfl (by kernel_rfl) (OKG.o rfl (OK1.call (ref05_Sub (by first | with_reducible assumption | omega | with_reducible exact d_words_ok _ | (simp only [dv_abs, d_val_words]; omega)) (by first | with_reducible assumption | omega | with_reducible exact d_words_ok _ | (simp only [dv_abs, d_val_words]; omega))) (.cons (Has.t rfl) (.cons (Has.t rfl) .nil)))) ?_
      refine DrG.fin (n := 6) mixed (by kernel_rfl) (by kernel_rfl) (by kernel_rfl) ?_
      refine Ops.cv (Cv.wk (.cons (t := 4) (Has.t rfl) (.cons (t := 5) (Has.t rfl) (.cons (t := 41) (Has.t rfl) (.cons (t := 46) (Has.t rfl) .nil))))) ?_
      refine Ops.store (Has.t rfl) (Has.t rfl) (i := 2) rfl ty112 rfl rfl (Ss' := [_, _]) rfl (M' := [_, _, (some _, cellM [_, _]), _, _]) rfl ?_
      refine Ops.store (Has.t rfl) (Has.t rfl) (i := 1) rfl ty112 rfl rfl (Ss' := [_, _]) rfl (M' := [_, (some _, cellM [_, _]), _, _, _]) rfl ?_
      refine nl ?_
      refine At.thn (hK7 _ _ ?_); clear hK7
      refine Tri.ret ?_
      refine rtN (.inl rfl) Try.results100 rfl rfl (.cell rfl (i := 2) rfl ty112 rfl ?_ (.cell rfl (i := 1) rfl ty112 rfl ?_ .nil))
      · exact isR_eq (by rw [hqe, flo2 hp hs h0])
      · exact isR_eq (by rw [hqe, flo2 hp hs h0, flo_rest])
    · have hc2 := BP.f hc2
      have h0 := nd_rest0 hc2
      refine Tri.skip ?_
      refine At.thn (hK4 _ _ ?_); clear hK4
      refine Tri.cv (Cv.wk (.cons (t := 2) (Has.t rfl) (.cons (t := 3) (Has.t rfl) (.cons (t := 4) (Has.t rfl) (.cons (t := 5) (Has.t rfl) (.cons (t := 8) (Has.t rfl) .nil)))))) ?_
      refine Tri.seq fun K8 hK8 => ?_
      refine Tri.dr ?_
      refine DrG.st (i := 0) [] rfl rfl rfl (by kernel_rfl) (OKG.o rfl (OK1.load (Has.t rfl) (i := 0) rfl ty112 rfl (Ss' := [_, _]) rfl)) ?_
      refine DrG.st (i := 1) [] rfl rfl rfl (by kernel_rfl) (OKG.o rfl (OK1.load (Has.t rfl) (i := 4) rfl ty112 rfl (Ss' := [_, _]) rfl)) ?_
      refine DrG.st (i := 2) [] rfl rfl rfl (by kernel_rfl) (OKG.o rfl (OK1.load (Has.t rfl) (i := 0) rfl ty112 rfl (Ss' := [_, _]) rfl)) ?_
      refine DrG.st (i := 3) [] rfl rfl rfl (by kernel_rfl) (OKG.o rfl (OK1.load (Has.t rfl) (i := 3) rfl ty112 rfl (Ss' := [_, _]) rfl)) ?_
      refine DrG.st (i := 4) [43, 44] rfl rfl rfl (by kernel_rfl) (OKG.o rfl (OK1.call (ref05_Mul (by first | with_reducible assumption | omega | with_reducible exact d_words_ok _ | (simp only [dv_abs, d_val_words]; omega)) (by first | with_reducible assumption | omega | with_reducible exact d_words_ok _ | (simp only [dv_abs, d_val_words]; omega))) (.cons (Has.t rfl) (.cons (Has.t rfl) .nil)))) ?_
      refine DrG.st (i := 5) [42, 45] rfl rfl rfl (by kernel_rfl) (OKG.o rfl (OK1.call (ref05_Sub (by first | with_reducible assumption | omega | with_reducible exact d_words_ok _ | (simp only [dv_abs, d_val_words]; omega)) (by first | with_reducible assumption | omega | with_reducible exact d_words_ok _ | (simp only [dv_abs, d_val_words]; omega))) (.cons (Has.t rfl) (.cons (Has.t rfl) .nil)))) ?_
      refine DrG.fin (n := 6) mixed (by kernel_rfl) (by kernel_rfl) (by kernel_rfl) ?_
      refine Ops.cv (Cv.wk (.cons (t := 4) (Has.t rfl) (.cons (t := 5) (Has.t rfl) (.cons (t := 41) (Has.t rfl) (.cons (t := 46) (Has.t rfl) .nil))))) ?_
      refine Ops.store (Has.t rfl) (Has.t rfl) (i := 2) rfl ty112 rfl rfl (Ss' := [_, _]) rfl (M' := [_, _, (some _, cellM [_, _]), _, _]) rfl ?_
      refine Ops.store (Has.t rfl) (Has.t rfl) (i := 1) rfl ty112 rfl rfl (Ss' := [_, _]) rfl (M' := [_, (some _, cellM [_, _]), _, _, _]) rfl ?_
      refine nl ?_
      refine At.thn (hK8 _ _ ?_); clear hK8
      refine Tri.ret ?_
      refine rtN (.inl rfl) Try.results100 rfl rfl (.cell rfl (i := 2) rfl ty112 rfl ?_ (.cell rfl (i := 1) rfl ty112 rfl ?_ .nil))
      · exact isR_eq (hqe.trans (flo1 hp hs h0))
      · exact isR_eq (by rw [hqe, flo1 hp hs h0, flo_rest])
  · have hc1 := BP.f hc1
    have hs : (decide (x < 0) == decide (y < 0)) = true := (by simpa using hc1.2)
    refine Tri.skip ?_
    refine At.thn (hK4 _ _ ?_); clear hK4
    refine Tri.seq fun K9 hK9 => ?_
    refine Tri.dr ?_
    refine DrG.st (i := 0) [] rfl rfl rfl (by kernel_rfl) (OKG.o rfl (OK1.load (Has.t rfl) (i := 0) rfl ty112 rfl (Ss' := [_, _]) rfl)) ?_
    refine DrG.st (i := 1) [] rfl rfl rfl (by kernel_rfl) (OKG.o rfl (OK1.load (Has.t rfl) (i := 4) rfl ty112 rfl (Ss' := [_, _]) rfl)) ?_
    refine DrG.st (i := 2) [] rfl rfl rfl (by kernel_rfl) (OKG.o rfl (OK1.load (Has.t rfl) (i := 0) rfl ty112 rfl (Ss' := [_, _]) rfl)) ?_
    refine DrG.st (i := 3) [] rfl rfl rfl (by kernel_rfl) (OKG.o rfl (OK1.load (Has.t rfl) (i := 3) rfl ty112 rfl (Ss' := [_, _]) rfl)) ?_
    refine DrG.st (i := 4) [43, 44] rfl rfl rfl (by kernel_rfl) (OKG.o rfl (OK1.call (ref05_Mul (by first | with_reducible assumption | omega | with_reducible exact d_words_ok _ | (simp only [dv_abs, d_val_words]; omega)) (by first | with_reducible assumption | omega | with_reducible exact d_words_ok _ | (simp only [dv_abs, d_val_words]; omega))) (.cons (Has.t rfl) (.cons (Has.t rfl) .nil)))) ?_
    refine DrG.st (i := 5) [42, 45] rfl rfl rfl (by kernel_rfl) (OKG.o rfl (OK1.call (ref05_Sub (by first | with_reducible assumption | omega | with_reducible exact d_words_ok _ | (simp only [dv_abs, d_val_words]; omega)) (by first | with_reducible assumption | omega | with_reducible exact d_words_ok _ | (simp only [dv_abs, d_val_words]; omega))) (.cons (Has.t rfl) (.cons (Has.t rfl) .nil)))) ?_
    refine DrG.fin (n := 6) mixed (by kernel_rfl) (by kernel_rfl) (by kernel_rfl) ?_
    refine Ops.cv (Cv.wk (.cons (t := 4) (Has.t rfl) (.cons (t := 5) (Has.t rfl) (.cons (t := 41) (Has.t rfl) (.cons (t := 46) (Has.t rfl) .nil))))) ?_
    refine Ops.store (Has.t rfl) (Has.t rfl) (i := 2) rfl ty112 rfl rfl (Ss' := [_, _]) rfl (M' := [_, _, (some _, cellM [_, _]), _, _]) rfl ?_
    refine Ops.store (Has.t rfl) (Has.t rfl) (i := 1) rfl ty112 rfl rfl (Ss' := [_, _]) rfl (M' := [_, (some _, cellM [_, _]), _, _, _]) rfl ?_
    refine nl ?_
    refine At.thn (hK9 _ _ ?_); clear hK9
    refine Tri.ret ?_
    refine rtN (.inl rfl) Try.results100 rfl rfl (.cell rfl (i := 2) rfl ty112 rfl ?_ (.cell rfl (i := 1) rfl ty112 rfl ?_ .nil))
    · exact isR_eq (hqe.trans (flo0 hp hs))
    · exact isR_eq (by rw [hqe, flo0 hp hs, flo_rest])

set_option maxHeartbeats 4000000 in
theorem ref06_Congruent {m n k : Bool} {xs ys zs : List Nat} (hx : xs.length ≤ 10000) (hy : ys.length ≤ 10000) (hz : zs.length ≤ 10000) (hp : 0 < zv k zs) : Ctr Try.prog 49 [Flat [isB m, isWords xs], Flat [isB n, isWords ys], Flat [isB k, isWords zs]] (isB (decide (zv k zs ∣ zv m xs - zv n ys))) := by
  refine Ctr.intro Try.func49 rfl (by kernel_rfl) Try.ntmps49 rfl fun w0 F0 => ?_
  refine Tri.cv (Cv.wk (.cons (t := 0) (Has.t rfl) (.cons (t := 1) (Has.t rfl) (.cons (t := 2) (Has.t rfl) .nil)))) ?_
  refine Tri.fact (Has.okZ (Has.t (t := 0) rfl)) fun okz0 => ?_
  refine Tri.fact (Has.okZ (Has.t (t := 1) rfl)) fun okz1 => ?_
  refine Tri.fact (Has.okZ (Has.t (t := 2) rfl)) fun okz2 => ?_
  have ex := zd_val m okz0.1
  have ey := zd_val n okz1.1
  have ez := zd_val k okz2.1
  have hs := zd_sub (zv m xs) (zv n ys)
  have hr := zd_mod (zv m xs - zv n ys) hp
  refine Tri.seq fun K1 hK1 => ?_
  refine Tri.region ?_
  refine Ops.box (Has.t rfl) rfl fun b1 => ?_
  refine Ops.box (Has.t rfl) rfl fun b2 => ?_
  refine Ops.box (Has.t rfl) rfl fun b3 => ?_
  refine st (OK1.as (Has.cB false)) rfl ?_
  refine nl ?_
  refine At.thn (hK1 _ _ ?_); clear hK1
  refine Tri.seq fun K2 hK2 => ?_
  refine Tri.drh [true, true, true] (Ms := [_, _, _]) rfl ?_
  refine DrH.st (i := 0) [] rfl rfl rfl (by kernel_rfl) (OKG.o rfl (OK1.load (Has.t rfl) (i := 2) rfl ty55 rfl (Ss' := [_, _]) rfl)) ?_
  refine DrH.st (i := 1) [10] rfl rfl rfl (by kernel_rfl) (OKG.o rfl (OK1.call (ref05_From (by first | with_reducible assumption | omega | with_reducible exact d_words_ok _ | with_reducible exact lineL_le _ _ _ _ | (simp only [dv_abs, d_val_words, dval_line]; omega) | (rw [lineL_len]; omega))) (.cons (Has.t rfl) .nil))) ?_
  refine DrH.st (i := 2) [] rfl rfl rfl (by kernel_rfl) (OKG.o rfl (OK1.load (Has.t rfl) (i := 1) rfl ty55 rfl (Ss' := [_, _]) rfl)) ?_
  refine DrH.st (i := 3) [12] rfl rfl rfl (by kernel_rfl) (OKG.o rfl (OK1.call (ref05_From (by first | with_reducible assumption | omega | with_reducible exact d_words_ok _ | with_reducible exact lineL_le _ _ _ _ | (simp only [dv_abs, d_val_words, dval_line]; omega) | (rw [lineL_len]; omega))) (.cons (Has.t rfl) .nil))) ?_
  refine DrH.st (i := 4) [11, 13] rfl rfl rfl (by kernel_rfl) (OKG.o rfl (OK1.call (ref05_Sub (by first | with_reducible assumption | omega | with_reducible exact d_words_ok _ | with_reducible exact lineL_le _ _ _ _ | (simp only [dv_abs, d_val_words, dval_line]; omega) | (rw [lineL_len]; omega)) (by first | with_reducible assumption | omega | with_reducible exact d_words_ok _ | with_reducible exact lineL_le _ _ _ _ | (simp only [dv_abs, d_val_words, dval_line]; omega) | (rw [lineL_len]; omega))) (.cons (Has.t rfl) (.cons (Has.t rfl) .nil)))) ?_
  refine DrH.st (i := 5) [] rfl rfl rfl (by kernel_rfl) (OKG.o rfl (OK1.load (Has.t rfl) (i := 0) rfl ty55 rfl (Ss' := [_, _]) rfl)) ?_
  refine DrH.st (i := 6) [15] rfl rfl rfl (by kernel_rfl) (OKG.o rfl (OK1.call (ref05_From (by first | with_reducible assumption | omega | with_reducible exact d_words_ok _ | with_reducible exact lineL_le _ _ _ _ | (simp only [dv_abs, d_val_words, dval_line]; omega) | (rw [lineL_len]; omega))) (.cons (Has.t rfl) .nil))) ?_
  refine DrH.st (i := 7) [14, 16] rfl rfl rfl (by kernel_rfl) (OKG.o rfl (OK1.call (ref05_Floor (by first | with_reducible assumption | omega | with_reducible exact d_words_ok _ | with_reducible exact lineL_le _ _ _ _ | (simp only [dv_abs, d_val_words, dval_line]; omega) | (rw [lineL_len]; omega)) (by first | with_reducible assumption | omega | with_reducible exact d_words_ok _ | with_reducible exact lineL_le _ _ _ _ | (simp only [dv_abs, d_val_words, dval_line]; omega) | (rw [lineL_len]; omega)) (by first | with_reducible assumption | omega | with_reducible exact d_words_ok _ | with_reducible exact lineL_le _ _ _ _ | (simp only [dv_abs, d_val_words, dval_line]; omega) | (rw [lineL_len]; omega))) (.cons (Has.t rfl) (.cons (Has.t rfl) .nil)))) ?_
  refine DrH.st (i := 8) [17] rfl rfl rfl (by kernel_rfl) (OKG.o rfl (OK1.mv (Has.t rfl))) ?_
  refine DrH.st (i := 9) [9] rfl rfl rfl (by kernel_rfl) (OKG.o rfl (OK1.ext (Has.t rfl) rfl)) ?_
  refine DrH.st (i := 10) [9] rfl rfl rfl (by kernel_rfl) (OKG.o rfl (OK1.ext (Has.t rfl) rfl)) ?_
  refine DrH.als (n1 := 13) (ds := [7, 8]) (zs := [[isB false, nilS], [isB false, nilS]]) rfl (.cons rfl rfl zero112 (fun _ _ => ⟨rfl, rfl, trivial⟩) (.cons rfl rfl zero112 (fun _ _ => ⟨rfl, rfl, trivial⟩) .nil)) (.cons_cons _ (.cons_cons _ (.cons_cons _ .slnil))) (Cs := [_, _]) rfl ?_
  refine DrN.new [18] 0 (Ss' := [_, _]) (Cs' := [cellM [_, _], _]) rfl (by kernel_rfl) (by kernel_rfl) rfl rfl rfl (by kernel_rfl) rfl (Has.t rfl) ty112 rfl rfl rfl rfl ?_
  refine DrN.fin (n := 14) mixed rfl (by kernel_rfl) (by kernel_rfl) (by kernel_rfl) (fun bs hbs => ?_)
  obtain ⟨b4, b5, rfl⟩ := len2 hbs
  refine Ops.memEq (M' := [_, _, _, _, _]) rfl ?_
  refine Ops.cv (Cv.wk (.cons (t := 6) (Has.t rfl) (.cons (t := 19) (Has.t rfl) (.cons (t := 8) (Has.op rfl) .nil)))) ?_
  refine Ops.store (Has.t rfl) (Has.t rfl) (i := 1) rfl ty112 rfl rfl (Ss' := [_, _]) rfl (M' := [_, (some _, cellM [_, _]), _, _, _]) rfl ?_
  refine nl ?_
  refine At.thn (hK2 _ _ ?_); clear hK2
  refine Tri.seq fun K3 hK3 => ?_
  refine Tri.region ?_
  refine st (OK1.load (Has.t rfl) (i := 1) rfl ty112 rfl (Ss' := [_, _]) rfl) rfl ?_
  refine st (OK1.call (ref05_Sign (by first | with_reducible assumption | omega | with_reducible exact d_words_ok _ | with_reducible exact lineL_le _ _ _ _ | (simp only [dv_abs, d_val_words, dval_line]; omega) | (rw [lineL_len]; omega))) (.cons (Has.t rfl) .nil)) rfl ?_
  refine st (OK1.eqI (Has.t rfl) (Has.cI 0 rfl)) rfl ?_
  refine st (OK1.as (Has.t rfl)) rfl ?_
  refine nl ?_
  refine At.thn (hK3 _ _ ?_); clear hK3
  refine Tri.cv (Cv.wk (.cons (t := 6) (Has.t rfl) .nil)) ?_
  refine Tri.ret ?_
  refine rt1 (.inl rfl) Try.results49 rfl (.tmp (Has.t' rfl ?_) .nil)
  all_goals (exact isB_eq (decide_eq_decide.2 (by rw [sgn_eq0]; exact (Int.dvd_iff_emod_eq_zero ..).symm)))

set_option maxHeartbeats 4000000 in
theorem ref06_Within {m n : Bool} {xs ys : List Nat} (hx : xs.length ≤ 10000) (hy : ys.length ≤ 10000) : Ctr Try.prog 48 [Flat [isB m, isWords xs], Flat [isB n, isWords ys]] (isB (decide (0 ≤ zv m xs ∧ zv m xs < zv n ys))) := by
  refine Ctr.intro Try.func48 rfl (by kernel_rfl) Try.ntmps48 rfl fun w0 F0 => ?_
  refine Tri.cv (Cv.wk (.cons (t := 0) (Has.t rfl) (.cons (t := 1) (Has.t rfl) .nil))) ?_
  refine Tri.fact (Has.okZ (Has.t (t := 0) rfl)) fun okz0 => ?_
  refine Tri.fact (Has.okZ (Has.t (t := 1) rfl)) fun okz1 => ?_
  have ex := zd_val m okz0.1
  have ey := zd_val n okz1.1
  refine Tri.seq fun K1 hK1 => ?_
  refine Tri.region ?_
  refine Ops.box (Has.t rfl) rfl fun b1 => ?_
  refine Ops.box (Has.t rfl) rfl fun b2 => ?_
  refine st (OK1.as (Has.cB false)) rfl ?_
  refine nl ?_
  refine At.thn (hK1 _ _ ?_); clear hK1
  refine Tri.seq fun K2 hK2 => ?_
  refine Tri.region ?_
  refine st (OK1.load (Has.t rfl) (i := 1) rfl ty55 rfl (Ss' := [_, _]) rfl) rfl ?_
  refine st (OK1.call (ref05_From (by first | with_reducible assumption | omega | with_reducible exact d_words_ok _ | with_reducible exact lineL_le _ _ _ _ | (simp only [dv_abs, d_val_words, dval_line]; omega) | (rw [lineL_len]; omega))) (.cons (Has.t rfl) .nil)) rfl ?_
  refine Ops.alloc [isB false, nilS] zero112 (fun _ _ => ⟨rfl, rfl, trivial⟩) rfl fun b3 => ?_
  refine Ops.store (Has.t rfl) (Has.t rfl) (i := 0) rfl ty112 rfl rfl (Ss' := [_, _]) rfl (M' := [(some _, cellM [_, _]), _, _]) rfl ?_
  refine nl ?_
  refine At.thn (hK2 _ _ ?_); clear hK2
  refine Tri.cv (Cv.wk (.cons (t := 3) (Has.t rfl) (.cons (t := 4) (Has.t rfl) (.cons (t := 5) (Has.t rfl) .nil)))) ?_
  refine Tri.seq fun K3 hK3 => ?_
  refine Tri.dr ?_
  refine DrG.st (i := 0) [] rfl rfl rfl (by kernel_rfl) (OKG.o rfl (OK1.load (Has.t rfl) (i := 0) rfl ty112 rfl (Ss' := [_, _]) rfl)) ?_
  refine DrG.st (i := 1) [8] rfl rfl rfl (by kernel_rfl) (OKG.o rfl (OK1.call (ref05_Sign (by first | with_reducible assumption | omega | with_reducible exact d_words_ok _ | with_reducible exact lineL_le _ _ _ _ | (simp only [dv_abs, d_val_words, dval_line]; omega) | (rw [lineL_len]; omega))) (.cons (Has.t rfl) .nil))) ?_
  refine DrG.st (i := 2) [9] rfl rfl rfl (by kernel_rfl) (OKG.o rfl (OK1.geI (Has.t rfl) (Has.cI 0 rfl))) ?_
  refine DrG.st (i := 3) [10] rfl rfl rfl (by kernel_rfl) (OKG.o rfl (OK1.mv (Has.t rfl))) ?_
  refine DrG.st (i := 4) [11] rfl rfl rfl (by kernel_rfl) (OKG.T rfl rfl rfl (fun hg => have hg' := BP.t hg; OK1.load (Has.t rfl) (i := 0) rfl ty112 rfl (Ss' := [_, _]) rfl)) ?_
  refine DrG.st (i := 5) [11] rfl rfl rfl (by kernel_rfl) (OKG.T rfl rfl rfl (fun hg => have hg' := BP.t hg; OK1.load (Has.t rfl) (i := 1) rfl ty55 rfl (Ss' := [_, _]) rfl)) ?_
  refine DrG.st (i := 6) [11, 13] rfl rfl rfl (by kernel_rfl) (OKG.T rfl rfl rfl (fun hg => have hg' := BP.t hg; OK1.call (ref05_From (by first | with_reducible assumption | omega | with_reducible exact d_words_ok _ | with_reducible exact lineL_le _ _ _ _ | (simp only [dv_abs, d_val_words, dval_line]; omega) | (rw [lineL_len]; omega))) (.cons (Has.g rfl hg) .nil))) ?_
  refine DrG.fin (n := 7) mixed (by kernel_rfl) (by kernel_rfl) (by kernel_rfl) ?_
  refine Ops.cv (Cv.wk (.cons (t := 4) (Has.t rfl) (.cons (t := 11) (Has.t rfl) (.cons (t := 12) (Has.t rfl) (.cons (t := 14) (Has.t rfl) .nil))))) ?_
  refine stT rfl rfl (fun hg => have hg' := BP.t hg; OK1.call (ref05_Cmp (by first | with_reducible assumption | omega | with_reducible exact d_words_ok _ | with_reducible exact lineL_le _ _ _ _ | (simp only [dv_abs, d_val_words, dval_line]; omega) | (rw [lineL_len]; omega)) (by first | with_reducible assumption | omega | with_reducible exact d_words_ok _ | with_reducible exact lineL_le _ _ _ _ | (simp only [dv_abs, d_val_words, dval_line]; omega) | (rw [lineL_len]; omega))) (.cons (Has.g rfl hg) (.cons (Has.g rfl hg) .nil))) rfl ?_
  refine stT rfl rfl (fun hg => have hg' := BP.t hg; OK1.ltI (Has.g rfl hg) (Has.cI 0 rfl)) rfl ?_
  refine st (OK1.pickAnd (Has.t rfl) (fun h => Has.g rfl h)) rfl ?_
  refine st (OK1.as (Has.t rfl)) rfl ?_
  refine nl ?_
  refine At.thn (hK3 _ _ ?_); clear hK3
  refine Tri.cv (Cv.wk (.cons (t := 4) (Has.t rfl) .nil)) ?_
  refine Tri.ret ?_
  refine rt1 (.inl rfl) Try.results48 rfl (.tmp (Has.t' rfl ?_) .nil)
  all_goals (exact isB_eq (within_eq _ _))
end Go.Proofs.Ytokhpacdgoebpaa
