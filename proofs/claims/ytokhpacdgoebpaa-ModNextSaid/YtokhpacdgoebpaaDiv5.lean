/- Contracts: quotients and rests. -/
import Derived.Test.YtokhpacdgoebpaaDiv4
import Derived.Test.YtokhpacdgoebpaaNatE
import Derived.Test.YtokhpacdgoebpaaMn
namespace Go.Proofs.Ytokhpacdgoebpaa
open Go.En Go.RowKit
set_option linter.unusedVariables false
set_option maxRecDepth 10000
open Go.Nt
theorem one_word {B : Nat} (h : (List.length (words B)) = 1) : (words B).getD 0 0 = B := by
  rw [getD_words, dig_def, Nat.pow_zero, Nat.div_one, Nat.mod_eq_of_lt (lt_of_nw_le_one (by omega))]
theorem exact_yes {a b : Nat} (h : b ≠ 0 ∧ (((List.length (words (if b = 0 then 0 else a % b))) : Nat) : Int) ≤ 0) : b ≠ 0 ∧ a % b = 0 := by
  rw [if_neg h.1] at h
  exact ⟨h.1, bits_zero (by omega)⟩
theorem exact_no {a b : Nat} (h : ¬ b ≠ 0 ∨ 0 < (((List.length (words (if b = 0 then 0 else a % b))) : Nat) : Int)) : ¬ (b ≠ 0 ∧ a % b = 0) := by
  rintro ⟨h1, h2⟩
  rcases h with h | h
  · exact h h1
  · rw [if_neg h1, h2, words_zero] at h; simp at h
theorem bits_int {A : Nat} (h : (List.length (words A)) ≠ 0) : 64 * (((List.length (words A)) : Int) - 1) + ((bitLen (dig A ((List.length (words A)) - 1)) : Nat) : Int) = ((bitLen A : Nat) : Int) := by
  have hA : A ≠ 0 := fun e => h (by rw [e, words_zero]; rfl)
  have := bits_words hA
  omega
theorem gcd_step {p q g : Nat} (h : Nat.gcd p q = g) : Nat.gcd q (p % q) = g := by rw [← h, Nat.gcd_comm p q, Nat.gcd_rec q p, Nat.gcd_comm]


set_option maxHeartbeats 4000000 in
theorem div_DivMod {xs ys : List Nat} (hx : (List.length (words (val xs))) < 4294800000) (hy : (List.length (words (val ys))) < 4294800000) : Ctr Try.prog 158 [isWords xs, isWords ys] (isTup [isWords (words (val xs / val ys)), isWords (words (if val ys = 0 then 0 else val xs % val ys)), isB (decide (val ys ≠ 0))]) := by
  refine Ctr.intro Try.func158 rfl (by kernel_rfl) Try.ntmps158 rfl fun w0 F0 => ?_
  refine Tri.cv (Cv.wk (.cons (t := 0) (Has.t rfl) (.cons (t := 1) (Has.t rfl) .nil))) ?_
  refine Tri.fact (Has.lenLt (Has.t (t := 0) rfl)) fun lt0 => ?_
  refine Tri.fact (Has.okW (Has.t (t := 0) rfl)) fun ok0 => ?_
  refine Tri.fact (Has.lenLt (Has.t (t := 1) rfl)) fun lt1 => ?_
  refine Tri.fact (Has.okW (Has.t (t := 1) rfl)) fun ok1 => ?_
  refine Tri.seq fun K1 hK1 => ?_
  refine Tri.region ?_
  refine st (OK1.as (Has.cW (f := isU))) rfl ?_
  refine st (OK1.as (Has.cW (f := isU))) rfl ?_
  refine st (OK1.as (Has.cB false)) rfl ?_
  refine nl ?_
  refine At.thn (hK1 _ _ ?_); clear hK1
  refine Tri.seq fun K2 hK2 => ?_
  refine Tri.region ?_
  refine st (OK1.mv (Has.t rfl)) rfl ?_
  refine st (OK1.eq (OK1.call (nat_Norm (by first | with_reducible assumption | omega | (simp only [val_words]; omega))) (.cons (Has.t rfl) .nil)) (by first | (simp only [val_words]; rfl) | rfl)) rfl ?_
  refine st (OK1.mv (Has.t rfl)) rfl ?_
  refine st (OK1.eq (OK1.call (nat_Norm (by first | with_reducible assumption | omega | (simp only [val_words]; omega))) (.cons (Has.t rfl) .nil)) (by first | (simp only [val_words]; rfl) | rfl)) rfl ?_
  refine st (OK1.as (Has.t rfl)) rfl ?_
  refine st (OK1.as (Has.t rfl)) rfl ?_
  refine nl ?_
  refine At.thn (hK2 _ _ ?_); clear hK2
  refine Tri.seq fun K3 hK3 => ?_
  refine Tri.block ?_
  refine Tri.seq fun K4 hK4 => ?_
  refine Tri.region ?_
  refine st (OK1.mv (Has.t rfl)) rfl ?_
  refine st (OK1.len sl53 (Has.t rfl)) rfl ?_
  refine st (OK1.eqI (Has.t rfl) (Has.cI 0 rfl)) rfl ?_
  refine st (OK1.as (Has.t rfl)) rfl ?_
  refine nl ?_
  refine At.thn (hK4 _ _ ?_); clear hK4
  refine Tri.cv (Cv.wk (.cons (t := 0) (Has.t rfl) (.cons (t := 1) (Has.t rfl) (.cons (t := 4) (Has.t rfl) (.cons (t := 5) (Has.t rfl) (.cons (t := 6) (Has.t rfl) (.cons (t := 23) (Has.t rfl) .nil))))))) ?_
  refine Tri.cond (Has.t rfl) (fun hc1 => ?_) (fun hc1 => ?_)
  · have hc1 := BP.t hc1
    refine Tri.seq fun K5 hK5 => ?_
    refine Tri.region ?_
    refine st (OK1.as (Has.cW (f := isU))) rfl ?_
    refine st (OK1.as (Has.cW (f := isU))) rfl ?_
    refine st (OK1.as (Has.cB false)) rfl ?_
    refine nl ?_
    refine At.thn (hK5 _ _ ?_); clear hK5
    refine Tri.ret ?_
    refine At.blr ?_
    refine At.thr ?_
    refine rtN (.inl rfl) Try.results158 rfl rfl (.tmp (Has.t' rfl ?_) (.tmp (Has.t' rfl ?_) (.tmp (Has.t' rfl ?_) .nil)))
    · exact SlM_eq (by rw [bits_zero (A := val ys) (by omega), Nat.div_zero, words_zero])
    · exact SlM_eq (by rw [if_pos (bits_zero (A := val ys) (by omega)), words_zero])
    · exact isB_eq (by simp [bits_zero (show (List.length (words (val ys))) = 0 by omega)])
  · have hc1 := BP.f hc1
    refine Tri.seq fun K6 hK6 => ?_
    refine Tri.region ?_
    refine st (OK1.mv (Has.t rfl)) rfl ?_
    refine st (OK1.mv (Has.t rfl)) rfl ?_
    refine st (OK1.eq (OK1.call (nat_Cmp) (.cons (Has.t rfl) (.cons (Has.t rfl) .nil))) (by first | (simp only [val_words]; rfl) | rfl)) rfl ?_
    refine st (OK1.ltI (Has.t rfl) (Has.cI 0 rfl)) rfl ?_
    refine st (OK1.as (Has.t rfl)) rfl ?_
    refine nl ?_
    refine At.thn (hK6 _ _ ?_); clear hK6
    refine Tri.cv (Cv.wk (.cons (t := 0) (Has.t rfl) (.cons (t := 1) (Has.t rfl) (.cons (t := 4) (Has.t rfl) (.cons (t := 5) (Has.t rfl) (.cons (t := 6) (Has.t rfl) (.cons (t := 27) (Has.t rfl) .nil))))))) ?_
    refine Tri.cond (Has.t rfl) (fun hc2 => ?_) (fun hc2 => ?_)
    · have hc2 := BP.t hc2
      have hlt := cmpN_neg.1 hc2
      refine Tri.seq fun K7 hK7 => ?_
      refine Tri.region ?_
      refine st (OK1.mv (Has.t rfl)) rfl ?_
      refine st (OK1.as (Has.cW (f := isU))) rfl ?_
      refine st (OK1.as (Has.t rfl)) rfl ?_
      refine st (OK1.as (Has.cB true)) rfl ?_
      refine nl ?_
      refine At.thn (hK7 _ _ ?_); clear hK7
      refine Tri.ret ?_
      refine At.blr ?_
      refine At.thr ?_
      refine rtN (.inl rfl) Try.results158 rfl rfl (.tmp (Has.t' rfl ?_) (.tmp (Has.t' rfl ?_) (.tmp (Has.t' rfl ?_) .nil)))
      · exact SlM_eq (by rw [Nat.div_eq_of_lt hlt, words_zero])
      · exact SlM_eq (by rw [if_neg (by omega), Nat.mod_eq_of_lt hlt])
      · exact isB_eq (by simp; omega)
    · have hc2 := BP.f hc2
      have hle : val ys ≤ val xs := Nat.le_of_not_lt (fun h => by have := cmpN_neg.2 h; omega)
      refine Tri.seq fun K8 hK8 => ?_
      refine Tri.region ?_
      refine st (OK1.mv (Has.t rfl)) rfl ?_
      refine st (OK1.len sl53 (Has.t rfl)) rfl ?_
      refine st (OK1.eqI (Has.t rfl) (Has.cI 1 rfl)) rfl ?_
      refine st (OK1.as (Has.t rfl)) rfl ?_
      refine nl ?_
      refine At.thn (hK8 _ _ ?_); clear hK8
      refine Tri.cond (Has.t rfl) (fun hc3 => ?_) (fun hc3 => ?_)
      · have hc3 := BP.t hc3
        have hB : val ys ≠ 0 := fun e => by rw [e, words_zero] at hc1; simp at hc1
        refine Tri.seq fun K9 hK9 => ?_
        refine Tri.region ?_
        refine st (OK1.mv (Has.t rfl)) rfl ?_
        refine st (OK1.mv (Has.t rfl)) rfl ?_
        refine st (OK1.ixP sl53 ty27 (Has.t rfl) (Has.cI 0 rfl) ⟨by omega, by omega⟩ (getD_some (d := 0) (by first | omega | (simp only [Int.toNat_natCast, List.length_set]; omega)))) rfl ?_
        refine st (OK1.eq (OK1.loadP1 (Has.t rfl) ty27) ((show isU _ = isU (val ys) from isU_eq (one_word (by omega))))) rfl ?_
        refine st (OK1.eq (OK1.call (div_Small (by first | with_reducible assumption | omega | (simp only [val_words]; omega))) (.cons (Has.t rfl) (.cons (Has.t rfl) .nil))) (by first | (simp only [val_words]; rfl) | rfl)) rfl ?_
        refine st (OK1.mv (Has.t rfl)) rfl ?_
        refine st (OK1.ext (Has.t rfl) rfl) rfl ?_
        refine st (OK1.ext (Has.t rfl) rfl) rfl ?_
        refine st (OK1.ext (Has.t rfl) rfl) rfl ?_
        refine st (OK1.as (Has.t rfl)) rfl ?_
        refine st (OK1.as (Has.t rfl)) rfl ?_
        refine st (OK1.as (Has.t rfl)) rfl ?_
        refine nl ?_
        refine At.thn (hK9 _ _ ?_); clear hK9
        refine Tri.cv (Cv.wk (.cons (t := 0) (Has.t rfl) (.cons (t := 1) (Has.t rfl) (.cons (t := 4) (Has.t rfl) (.cons (t := 5) (Has.t rfl) (.cons (t := 6) (Has.t rfl) (.cons (t := 7) (Has.t rfl) (.cons (t := 8) (Has.t rfl) .nil)))))))) ?_
        refine Tri.seq fun K10 hK10 => ?_
        refine Tri.region ?_
        refine st (OK1.mv (Has.t rfl)) rfl ?_
        refine st (OK1.mv (Has.t rfl)) rfl ?_
        refine st (OK1.call (nat_Of) (.cons (Has.t rfl) .nil)) rfl ?_
        refine st (OK1.as (Has.t rfl)) rfl ?_
        refine st (OK1.as (Has.t rfl)) rfl ?_
        refine st (OK1.as (Has.cB true)) rfl ?_
        refine nl ?_
        refine At.thn (hK10 _ _ ?_); clear hK10
        refine Tri.cv (Cv.wk (.cons (t := 0) (Has.t rfl) (.cons (t := 1) (Has.t rfl) (.cons (t := 4) (Has.t rfl) (.cons (t := 5) (Has.t rfl) (.cons (t := 6) (Has.t rfl) .nil)))))) ?_
        refine Tri.ret ?_
        refine At.blr ?_
        refine At.thr ?_
        refine rtN (.inl rfl) Try.results158 rfl rfl (.tmp (Has.t' rfl ?_) (.tmp (Has.t' rfl ?_) (.tmp (Has.t' rfl ?_) .nil)))
        · rfl
        · rfl
        · exact isB_eq (by simp [hB])
      · have hc3 := BP.f hc3
        have hB : val ys ≠ 0 := fun e => by rw [e, words_zero] at hc1; simp at hc1
        obtain ⟨k, hk⟩ : ∃ k, k = 64 - bitLen (dig (val ys) ((List.length (words (val ys))) - 1)) := ⟨_, rfl⟩
        have D := dm hB hle hk
        have Dk := D.k64
        have Dv := D.v
        have Dw := D.w
        have Dl := D.le
        refine Tri.skip ?_
        refine At.bln ?_
        refine At.thn (hK3 _ _ ?_); clear hK3
        refine Tri.cv (Cv.wk (.cons (t := 0) (Has.t rfl) (.cons (t := 1) (Has.t rfl) (.cons (t := 4) (Has.t rfl) (.cons (t := 5) (Has.t rfl) (.cons (t := 6) (Has.t rfl) .nil)))))) ?_
        refine Tri.seq fun K11 hK11 => ?_
        refine Tri.region ?_
        refine st (OK1.mv (Has.t rfl)) rfl ?_
        refine st (OK1.mv (Has.t rfl)) rfl ?_
        refine st (OK1.len sl53 (Has.t rfl)) rfl ?_
        refine st (OK1.subI (Has.t rfl) (Has.cI 1 rfl) (by first | with_reducible assumption | omega | (simp only [val_words]; omega)) (by first | with_reducible assumption | omega | (simp only [val_words]; omega))) rfl ?_
        refine st (OK1.ixP sl53 ty27 (Has.t rfl) (Has.t rfl) ⟨by omega, by omega⟩ (getD_some (d := 0) (by first | omega | (simp only [Int.toNat_natCast, List.length_set]; omega)))) rfl ?_
        refine st (OK1.eq (OK1.loadP1 (Has.t rfl) ty27) ((show isU _ = isU (dig (val ys) ((List.length (words (val ys))) - 1)) from isU_eq (getV (by omega))))) rfl ?_
        refine st (OK1.eq (OK1.call (bits_LZ64) (.cons (Has.t rfl) .nil)) ((show isI _ = isI ((k : Nat) : Int) from isI_eq (by rw [hk])))) rfl ?_
        refine st (OK1.as (Has.t rfl)) rfl ?_
        refine nl ?_
        refine At.thn (hK11 _ _ ?_); clear hK11
        refine Tri.cv (Cv.wk (.cons (t := 0) (Has.t rfl) (.cons (t := 1) (Has.t rfl) (.cons (t := 4) (Has.t rfl) (.cons (t := 5) (Has.t rfl) (.cons (t := 6) (Has.t rfl) (.cons (t := 10) (Has.t rfl) .nil))))))) ?_
        refine Tri.seq fun K12 hK12 => ?_
        refine Tri.region ?_
        refine st (OK1.mv (Has.t rfl)) rfl ?_
        refine st (OK1.mv (Has.t rfl)) rfl ?_
        refine st (OK1.eq (OK1.call (nat_Shl (by omega) (by rw [val_words]; omega)) (.cons (Has.t rfl) (.cons (Has.t rfl) .nil))) (by first | (simp only [val_words]; rfl) | rfl)) rfl ?_
        refine st (OK1.mv (Has.t rfl)) rfl ?_
        refine st (OK1.ext (Has.t rfl) rfl) rfl ?_
        refine st (OK1.ext (Has.t rfl) rfl) rfl ?_
        refine st (OK1.as (Has.t rfl)) rfl ?_
        refine st (OK1.as (Has.t rfl)) rfl ?_
        refine nl ?_
        refine At.thn (hK12 _ _ ?_); clear hK12
        refine Tri.cv (Cv.wk (.cons (t := 0) (Has.t rfl) (.cons (t := 4) (Has.t rfl) (.cons (t := 5) (Has.t rfl) (.cons (t := 6) (Has.t rfl) (.cons (t := 10) (Has.t rfl) (.cons (t := 11) (Has.t rfl) .nil))))))) ?_
        refine Tri.seq fun K13 hK13 => ?_
        refine Tri.region ?_
        refine st (OK1.mv (Has.t rfl)) rfl ?_
        refine st (OK1.mv (Has.t rfl)) rfl ?_
        refine st (OK1.eq (OK1.call (nat_Shl (by omega) (by rw [val_words]; omega)) (.cons (Has.t rfl) (.cons (Has.t rfl) .nil))) (by first | (simp only [val_words]; rfl) | rfl)) rfl ?_
        refine st (OK1.mv (Has.t rfl)) rfl ?_
        refine st (OK1.ext (Has.t rfl) rfl) rfl ?_
        refine st (OK1.ext (Has.t rfl) rfl) rfl ?_
        refine st (OK1.as (Has.t rfl)) rfl ?_
        refine st (OK1.as (Has.t rfl)) rfl ?_
        refine nl ?_
        refine At.thn (hK13 _ _ ?_); clear hK13
        refine Tri.cv (Cv.wk (.cons (t := 0) (Has.t rfl) (.cons (t := 4) (Has.t rfl) (.cons (t := 5) (Has.t rfl) (.cons (t := 6) (Has.t rfl) (.cons (t := 10) (Has.t rfl) (.cons (t := 11) (Has.t rfl) (.cons (t := 13) (Has.t rfl) .nil)))))))) ?_
        refine Tri.seq fun K14 hK14 => ?_
        refine Tri.region ?_
        refine st (OK1.mv (Has.t rfl)) rfl ?_
        refine st (OK1.len sl53 (Has.t rfl)) rfl ?_
        refine st (OK1.addI (Has.t rfl) (Has.cI 1 rfl) (by first | with_reducible assumption | omega | (simp only [val_words]; omega)) (by first | with_reducible assumption | omega | (simp only [val_words]; omega))) rfl ?_
        refine Ops.make (f := isU) (u := 0) (n := (List.length (words (val xs))) + 1) (c := (List.length (words (val xs))) + 1) sl53 ty27 zero27 (fun _ _ => ⟨⟨rfl, by decide⟩, trivial⟩) by27 (Has.t' rfl rfl) (Has.t' rfl rfl) ⟨by omega, by omega⟩ rfl fun b1 => ?_
        refine st (OK1.as (Has.t rfl)) rfl ?_
        refine nl ?_
        refine At.thn (hK14 _ _ ?_); clear hK14
        refine Tri.cv (Cv.wk (.cons (t := 4) (Has.t rfl) (.cons (t := 5) (Has.t rfl) (.cons (t := 6) (Has.t rfl) (.cons (t := 10) (Has.t rfl) (.cons (t := 11) (Has.t rfl) (.cons (t := 13) (Has.t rfl) (.cons (t := 15) (Has.t rfl) .nil)))))))) ?_
        refine Tri.seq fun K15 hK15 => ?_
        refine Tri.region ?_
        refine st (OK1.mv (Has.t rfl)) rfl ?_
        refine st (OK1.mv (Has.t rfl)) rfl ?_
        refine Ops.copyW sl53 ty27 (fun _ => inferInstance) (Has.t rfl) (Has.t rfl) (i := 0) rfl ⟨Dw, by simp⟩ rfl (M' := [(some b1, cellM (List.map isU (wordsN ((List.length (words (val xs))) + 1) (val xs * 2 ^ k))))]) (memL_eq (copy_words Dw)) ?_
        refine nl ?_
        refine At.thn (hK15 _ _ ?_); clear hK15
        refine Tri.seq fun K16 hK16 => ?_
        refine Tri.region ?_
        refine st (OK1.mv (Has.t rfl)) rfl ?_
        refine st (OK1.mv (Has.t rfl)) rfl ?_
        refine Ops.callM (div_long (N := val xs * 2 ^ k) (v := val ys * 2 ^ k) (m := (List.length (words (val xs))) + 1) (by omega) (by omega) (by omega) D.lt) (i := 0) rfl (.cons (Has.t rfl) (.cons (Has.t rfl) .nil)) rfl (M' := [(_, _)]) rfl ?_
        refine st (OK1.as (Has.t rfl)) rfl ?_
        refine nl ?_
        refine At.thn (hK16 _ _ ?_); clear hK16
        refine Tri.cv (Cv.wk (.cons (t := 4) (Has.t rfl) (.cons (t := 5) (Has.t rfl) (.cons (t := 6) (Has.t rfl) (.cons (t := 10) (Has.t rfl) (.cons (t := 15) (Has.t rfl) (.cons (t := 16) (Has.t rfl) .nil))))))) ?_
        refine Tri.seq fun K17 hK17 => ?_
        refine Tri.cv (Cv.freeze' (t := 15) (i := 0) (ys := wordsN ((List.length (words (val xs))) + 1) (left (val xs * 2 ^ k) (val ys * 2 ^ k) 0)) rfl rfl rfl (by simp [wordsN_len]) (freeze_all (wordsN_len _ _).symm)) ?_
        refine Tri.memEq (M' := []) rfl ?_
        refine Tri.cv (Cv.wk (.cons (t := 4) (Has.t rfl) (.cons (t := 5) (Has.t rfl) (.cons (t := 6) (Has.t rfl) (.cons (t := 10) (Has.t rfl) (.cons (t := 15) (Has.t rfl) (.cons (t := 16) (Has.t rfl) .nil))))))) ?_
        refine Tri.region ?_
        refine st (OK1.mv (Has.t rfl)) rfl ?_
        refine st (OK1.mv (Has.t rfl)) rfl ?_
        refine st (OK1.call (nat_Shr (by omega) (by have := nw_val_wordsN ((List.length (words (val xs))) + 1) (left (val xs * 2 ^ k) (val ys * 2 ^ k) 0); omega)) (.cons (Has.t rfl) (.cons (Has.t rfl) .nil))) rfl ?_
        refine st (OK1.mv (Has.t rfl)) rfl ?_
        refine st (OK1.ext (Has.t rfl) rfl) rfl ?_
        refine st (OK1.ext (Has.t rfl) rfl) rfl ?_
        refine st (OK1.as (Has.t rfl)) rfl ?_
        refine st (OK1.as (Has.t rfl)) rfl ?_
        refine nl ?_
        refine At.thn (hK17 _ _ ?_); clear hK17
        refine Tri.cv (Cv.wk (.cons (t := 4) (Has.t rfl) (.cons (t := 5) (Has.t rfl) (.cons (t := 6) (Has.t rfl) (.cons (t := 16) (Has.t rfl) (.cons (t := 17) (Has.t rfl) .nil)))))) ?_
        refine Tri.seq fun K18 hK18 => ?_
        refine Tri.region ?_
        refine st (OK1.mv (Has.t rfl)) rfl ?_
        refine st (OK1.call (nat_Norm (by have := nw_val_wordsN ((List.length (words (val xs))) + 1 - (List.length (words (val ys * 2 ^ k)))) (val xs * 2 ^ k / (val ys * 2 ^ k)); omega)) (.cons (Has.t rfl) .nil)) rfl ?_
        refine st (OK1.mv (Has.t rfl)) rfl ?_
        refine st (OK1.as (Has.t rfl)) rfl ?_
        refine st (OK1.as (Has.t rfl)) rfl ?_
        refine st (OK1.as (Has.cB true)) rfl ?_
        refine nl ?_
        refine At.thn (hK18 _ _ ?_); clear hK18
        refine Tri.cv (Cv.wk (.cons (t := 4) (Has.t rfl) (.cons (t := 5) (Has.t rfl) (.cons (t := 6) (Has.t rfl) .nil)))) ?_
        refine Tri.ret ?_
        refine rtN (.inl rfl) Try.results158 rfl rfl (.tmp (Has.t' rfl ?_) (.tmp (Has.t' rfl ?_) (.tmp (Has.t' rfl ?_) .nil)))
        · exact SlM_eq (dm_quo hB D rfl rfl)
        · exact SlM_eq (by rw [if_neg hB, dm_rest hB D rfl])
        · exact isB_eq (by simp [hB])

set_option maxHeartbeats 4000000 in
theorem nat_Bits {xs : List Nat} (hx : (List.length (words (val xs))) < 4294967296) : Ctr Try.prog 96 [isWords xs] (isI ((bitLen (val xs) : Nat) : Int)) := by
  refine Ctr.intro Try.func96 rfl (by kernel_rfl) Try.ntmps96 rfl fun w0 F0 => ?_
  refine Tri.cv (Cv.wk (.cons (t := 0) (Has.t rfl) .nil)) ?_
  refine Tri.fact (Has.lenLt (Has.t (t := 0) rfl)) fun lt0 => ?_
  refine Tri.fact (Has.okW (Has.t (t := 0) rfl)) fun ok0 => ?_
  refine Tri.seq fun K1 hK1 => ?_
  refine Tri.region ?_
  refine st (OK1.as (Has.cI 0 rfl)) rfl ?_
  refine nl ?_
  refine At.thn (hK1 _ _ ?_); clear hK1
  refine Tri.seq fun K2 hK2 => ?_
  refine Tri.region ?_
  refine st (OK1.mv (Has.t rfl)) rfl ?_
  refine st (OK1.call (nat_trim) (.cons (Has.t rfl) .nil)) rfl ?_
  refine st (OK1.as (Has.t rfl)) rfl ?_
  refine nl ?_
  refine At.thn (hK2 _ _ ?_); clear hK2
  refine Tri.seq fun K3 hK3 => ?_
  refine Tri.seq fun K4 hK4 => ?_
  refine Tri.region ?_
  refine st (OK1.mv (Has.t rfl)) rfl ?_
  refine st (OK1.len sl53 (Has.t rfl)) rfl ?_
  refine st (OK1.eqI (Has.t rfl) (Has.cI 0 rfl)) rfl ?_
  refine nl ?_
  refine At.thn (hK4 _ _ ?_); clear hK4
  refine Tri.cond (Has.t rfl) (fun hc1 => ?_) (fun hc1 => ?_)
  · have hc1 := BP.t hc1
    refine Tri.seq fun K5 hK5 => ?_
    refine Tri.region ?_
    refine st (OK1.as (Has.cI 0 rfl)) rfl ?_
    refine nl ?_
    refine At.thn (hK5 _ _ ?_); clear hK5
    refine Tri.cv (Cv.wk (.cons (t := 0) (Has.t rfl) (.cons (t := 2) (Has.t rfl) .nil))) ?_
    refine Tri.ret ?_
    refine At.thr ?_
    refine rt1 (.inl rfl) Try.results96 rfl (.tmp (Has.t' rfl ?_) .nil)
    all_goals (exact isI_eq (by rw [bits_zero (A := val xs) (by omega)]; rfl))
  · have hc1 := BP.f hc1
    have hb := bits_int (A := val xs) (by omega)
    have hd := bitLen_le64 (dig_lt (val xs) ((List.length (words (val xs))) - 1))
    refine Tri.skip ?_
    refine At.thn (hK3 _ _ ?_); clear hK3
    refine Tri.cv (Cv.wk (.cons (t := 0) (Has.t rfl) (.cons (t := 2) (Has.t rfl) .nil))) ?_
    refine Tri.seq fun K6 hK6 => ?_
    refine Tri.region ?_
    refine st (OK1.mv (Has.t rfl)) rfl ?_
    refine st (OK1.len sl53 (Has.t rfl)) rfl ?_
    refine st (OK1.subI (Has.t rfl) (Has.cI 1 rfl) (by first | with_reducible assumption | omega | (simp only [val_words]; omega)) (by first | with_reducible assumption | omega | (simp only [val_words]; omega))) rfl ?_
    refine st (OK1.mulI (Has.cI 64 rfl) (Has.t rfl) (by first | with_reducible assumption | omega | (simp only [val_words]; omega)) (by first | with_reducible assumption | omega | (simp only [val_words]; omega))) rfl ?_
    refine st (OK1.mv (Has.t rfl)) rfl ?_
    refine st (OK1.mv (Has.t rfl)) rfl ?_
    refine st (OK1.len sl53 (Has.t rfl)) rfl ?_
    refine st (OK1.subI (Has.t rfl) (Has.cI 1 rfl) (by first | with_reducible assumption | omega | (simp only [val_words]; omega)) (by first | with_reducible assumption | omega | (simp only [val_words]; omega))) rfl ?_
    refine st (OK1.ixP sl53 ty27 (Has.t rfl) (Has.t rfl) ⟨by omega, by omega⟩ (getD_some (d := 0) (by first | omega | (simp only [Int.toNat_natCast, List.length_set]; omega)))) rfl ?_
    refine st (OK1.eq (OK1.loadP1 (Has.t rfl) ty27) ((show isU _ = isU (dig (val xs) ((List.length (words (val xs))) - 1)) from isU_eq (getV (by omega))))) rfl ?_
    refine st (OK1.call (bits_Len64) (.cons (Has.t rfl) .nil)) rfl ?_
    refine st (OK1.addI (Has.t rfl) (Has.t rfl) (by first | with_reducible assumption | omega | (simp only [val_words]; omega)) (by first | with_reducible assumption | omega | (simp only [val_words]; omega))) rfl ?_
    refine st (OK1.as (Has.t rfl)) rfl ?_
    refine nl ?_
    refine At.thn (hK6 _ _ ?_); clear hK6
    refine Tri.cv (Cv.wk (.cons (t := 2) (Has.t rfl) .nil)) ?_
    refine Tri.ret ?_
    refine rt1 (.inl rfl) Try.results96 rfl (.tmp (Has.t' rfl ?_) .nil)
    all_goals (exact isI_eq (by omega))

theorem gcd_le_max (a b : Nat) : Nat.gcd a b ≤ max a b := by
  rcases Nat.eq_zero_or_pos a with h | h
  · subst h; rw [Nat.gcd_zero_left]; exact Nat.le_max_right _ _
  · exact Nat.le_trans (Nat.gcd_le_left b h) (Nat.le_max_left _ _)
theorem nw_max (a b : Nat) : (List.length (words (max a b))) ≤ max ((List.length (words a))) ((List.length (words b))) := by
  rcases Nat.le_total a b with h | h
  · rw [Nat.max_eq_right h]; omega
  · rw [Nat.max_eq_left h]; omega
theorem lcm_quo (a b : Nat) : (if Nat.gcd a b ≠ 0 ∧ a % Nat.gcd a b = 0 then a / Nat.gcd a b else 0) * b = Nat.lcm a b := by
  have hd : a % Nat.gcd a b = 0 := Nat.mod_eq_zero_of_dvd (Nat.gcd_dvd_left a b)
  unfold Nat.lcm
  by_cases h : Nat.gcd a b = 0
  · rw [if_neg (fun h2 => h2.1 h), h, Nat.zero_mul, Nat.div_zero]
  · rw [if_pos ⟨h, hd⟩, Nat.div_mul_right_comm (Nat.gcd_dvd_left a b)]
theorem lcm_quo_le (a b : Nat) : (if Nat.gcd a b ≠ 0 ∧ a % Nat.gcd a b = 0 then a / Nat.gcd a b else 0) ≤ a := by
  split
  · exact Nat.div_le_self _ _
  · exact Nat.zero_le _
theorem bitLen_zero {a : Nat} (h : ((bitLen a : Nat) : Int) = 0) : a = 0 := by
  rcases Nat.eq_zero_or_pos a with h2 | h2
  · exact h2
  · have := bitLen_pos (x := a) (by omega); omega
theorem lcm_none {a b : Nat} (h : ((bitLen a : Nat) : Int) = 0 ∨ ((bitLen b : Nat) : Int) = 0) : Nat.lcm a b = 0 := by
  rcases h with h | h
  · rw [bitLen_zero h, Nat.lcm_zero_left]
  · rw [bitLen_zero h, Nat.lcm_zero_right]
def root : Nat → Nat
  | 0 => 0
  | n + 1 => if (root n + 1) * (root n + 1) ≤ n + 1 then root n + 1 else root n
theorem root_spec : ∀ n : Nat, root n * root n ≤ n ∧ n < (root n + 1) * (root n + 1)
  | 0 => by decide
  | n + 1 => by
    obtain ⟨h1, h2⟩ := root_spec n
    unfold root
    split
    · refine ⟨by assumption, ?_⟩
      have : (root n + 1) * (root n + 1) < (root n + 1 + 1) * (root n + 1 + 1) := Nat.mul_lt_mul_of_lt_of_lt (by omega) (by omega)
      omega
    · omega
theorem root_uniq {A r : Nat} (h1 : r * r ≤ A) (h2 : A < (r + 1) * (r + 1)) : root A = r := by
  obtain ⟨g1, g2⟩ := root_spec A
  rcases Nat.lt_trichotomy (root A) r with h | h | h
  · have := Nat.mul_le_mul (show root A + 1 ≤ r by omega) (show root A + 1 ≤ r by omega); omega
  · exact h
  · have := Nat.mul_le_mul (show r + 1 ≤ root A by omega) (show r + 1 ≤ root A by omega); omega
theorem cmpN_nn {m n : Nat} (h : 0 ≤ cmpN m n) : n ≤ m := by
  rcases Nat.lt_or_ge m n with h2 | h2
  · have := cmpN_neg.2 h2; omega
  · exact h2
theorem root_nw' {n k : Nat} (h : n < 64 * k) : (List.length (words (2 ^ n))) ≤ k := nw_le (by rw [W_pow]; exact Nat.pow_lt_pow_right (by decide) h)
theorem root_nw {n : Nat} (h : n < 512) : (List.length (words (2 ^ n))) ≤ 8 := root_nw' (k := 8) h
theorem same_step {xs ys : List Nat} {i : Nat} (h : i < xs.length) (h2 : i < ys.length) (he : xs.take i = ys.take i) (hd : xs.getD ((i : Int)).toNat 0 = ys.getD ((i : Int)).toNat 0) : xs.take (i + 1) = ys.take (i + 1) := by
  simp only [Int.toNat_natCast, List.getD_eq_getElem?_getD] at hd
  rw [List.take_add_one, List.take_add_one, he, List.getElem?_eq_getElem h, List.getElem?_eq_getElem h2]
  rw [List.getElem?_eq_getElem h, List.getElem?_eq_getElem h2] at hd
  have hd' : xs[i] = ys[i] := by simpa using hd
  rw [hd']
theorem same_end {xs ys : List Nat} {i : Nat} (h : xs.length ≤ i) (h2 : ys.length ≤ i) (he : xs.take i = ys.take i) : xs = ys := by
  rwa [List.take_of_length_le h, List.take_of_length_le h2] at he


set_option maxHeartbeats 4000000 in
theorem mul_MulS {xs ys : List Nat} (hx : (List.length (words (val xs))) ≤ 8 ∨ (List.length (words (val ys))) ≤ 8) (hs : (List.length (words (val xs))) + (List.length (words (val ys))) < 4294800000) : Ctr Try.prog 104 [isWords xs, isWords ys] (isWords (words (val xs * val ys))) := by
  refine Ctr.intro Try.func104 rfl (by kernel_rfl) Try.ntmps104 rfl fun w0 F0 => ?_
  refine Tri.cv (Cv.wk (.cons (t := 0) (Has.t rfl) (.cons (t := 1) (Has.t rfl) .nil))) ?_
  refine Tri.fact (Has.lenLt (Has.t (t := 0) rfl)) fun lt0 => ?_
  refine Tri.fact (Has.okW (Has.t (t := 0) rfl)) fun ok0 => ?_
  refine Tri.fact (Has.lenLt (Has.t (t := 1) rfl)) fun lt1 => ?_
  refine Tri.fact (Has.okW (Has.t (t := 1) rfl)) fun ok1 => ?_
  refine Tri.seq fun K1 hK1 => ?_
  refine Tri.region ?_
  refine st (OK1.as (Has.cW (f := isU))) rfl ?_
  refine nl ?_
  refine At.thn (hK1 _ _ ?_); clear hK1
  refine Tri.seq fun K2 hK2 => ?_
  refine Tri.region ?_
  refine st (OK1.mv (Has.t rfl)) rfl ?_
  refine st (OK1.eq (OK1.call (nat_Norm (by first | with_reducible assumption | omega | (simp only [val_words]; omega))) (.cons (Has.t rfl) .nil)) (by first | (simp only [val_words]; rfl) | rfl)) rfl ?_
  refine st (OK1.mv (Has.t rfl)) rfl ?_
  refine st (OK1.eq (OK1.call (nat_Norm (by first | with_reducible assumption | omega | (simp only [val_words]; omega))) (.cons (Has.t rfl) .nil)) (by first | (simp only [val_words]; rfl) | rfl)) rfl ?_
  refine st (OK1.as (Has.t rfl)) rfl ?_
  refine st (OK1.as (Has.t rfl)) rfl ?_
  refine nl ?_
  refine At.thn (hK2 _ _ ?_); clear hK2
  refine Tri.seq fun K3 hK3 => ?_
  refine Tri.seq fun K4 hK4 => ?_
  refine Tri.region ?_
  refine st (OK1.mv (Has.t rfl)) rfl ?_
  refine st (OK1.len sl53 (Has.t rfl)) rfl ?_
  refine st (OK1.mv (Has.t rfl)) rfl ?_
  refine st (OK1.len sl53 (Has.t rfl)) rfl ?_
  refine st (OK1.minI (Has.t rfl) (Has.t rfl)) rfl ?_
  refine st (OK1.leI (Has.t rfl) (Has.cI 8 rfl)) rfl ?_
  refine nl ?_
  refine At.thn (hK4 _ _ ?_); clear hK4
  refine Tri.cv (Cv.wk (.cons (t := 0) (Has.t rfl) (.cons (t := 1) (Has.t rfl) (.cons (t := 4) (Has.t rfl) (.cons (t := 22) (Has.t rfl) .nil))))) ?_
  refine Tri.cond (Has.t rfl) (fun hc1 => ?_) (fun hc1 => ?_)
  · have hc1 := BP.t hc1
    refine Tri.seq fun K5 hK5 => ?_
    refine Tri.region ?_
    refine st (OK1.mv (Has.t rfl)) rfl ?_
    refine st (OK1.mv (Has.t rfl)) rfl ?_
    refine st (OK1.eq (OK1.call (nat_Mul (by first | with_reducible assumption | omega | (simp only [val_words]; omega))) (.cons (Has.t rfl) (.cons (Has.t rfl) .nil))) (by first | (simp only [val_words]; rfl) | rfl)) rfl ?_
    refine st (OK1.as (Has.t rfl)) rfl ?_
    refine nl ?_
    refine At.thn (hK5 _ _ ?_); clear hK5
    refine Tri.ret ?_
    refine At.thr ?_
    refine rt1 (.inl rfl) Try.results104 rfl (.tmp (Has.t' rfl ?_) .nil)
    all_goals (rfl)
  · have hc1 := BP.f hc1
    exfalso; revert hc1; split <;> intro hc1 <;> omega
end Go.Proofs.Ytokhpacdgoebpaa
