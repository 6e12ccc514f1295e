/- Rules and contracts, part 3 of 6. -/
import Derived.Test.YtcfobfedliajdaaQHnfCoordinates2
/- Contracts: quotients and rests. -/
namespace Go.Proofs.Ytcfobfedliajdaa
open Go.En Go.RowKit
set_option linter.unusedVariables false
set_option maxRecDepth 10000
open Go.Nt
theorem one_word {B : Nat} (h : (List.length (words B)) = 1) : (words B).getD 0 0 = B := by
  rw [getD_words, dig_def, Nat.pow_zero, Nat.div_one, Nat.mod_eq_of_lt (lt_of_nw_le_one (by omega))]
theorem bits_int {A : Nat} (h : (List.length (words A)) ≠ 0) : 64 * (((List.length (words A)) : Int) - 1) + ((bitLen (dig A ((List.length (words A)) - 1)) : Nat) : Int) = ((bitLen A : Nat) : Int) := by
  have hA : A ≠ 0 := fun e => h (by rw [e, words_zero]; rfl)
  have := bits_words hA
  omega
set_option maxHeartbeats 4000000 in
theorem div_DivMod {xs ys : List Nat} (hx : (List.length (words (val xs))) < 4294800000) (hy : (List.length (words (val ys))) < 4294800000) : Ctr Try.prog 64 [isWords xs, isWords ys] (isTup [isWords (words (val xs / val ys)), isWords (words (if val ys = 0 then 0 else val xs % val ys)), isB (decide (val ys ≠ 0))]) := by
  refine Ctr.intro Try.func64 rfl (by kernel_rfl) Try.ntmps64 rfl fun w0 F0 => ?_
  refine Tri.cv (Cv.wk (.cons (t := 0) (Has.t rfl) (.cons (t := 1) (Has.t rfl) .nil))) ?_
  refine Tri.fact (Has.lenLt (Has.t (t := 0) rfl)) fun lt0 => ?_
  refine Tri.fact (Has.okW (Has.t (t := 0) rfl)) fun ok0 => ?_
  refine Tri.fact (Has.lenLt (Has.t (t := 1) rfl)) fun lt1 => ?_
  refine Tri.fact (Has.okW (Has.t (t := 1) rfl)) fun ok1 => ?_
  refine Tri.seq fun K1 hK1 => ?_
  refine Tri.region ?_
  refine st (OK1.as (Has.cW (f := isU))) rfl ?_
  refine st (OK1.as (Has.cW (f := isU))) rfl ?_
  refine st (OK1.as (Has.cB false)) rfl ?_
  refine nl ?_
  refine At.thn (hK1 _ _ ?_); clear hK1
  refine Tri.seq fun K2 hK2 => ?_
  refine Tri.region ?_
  refine st (OK1.mv (Has.t rfl)) rfl ?_
  refine st (OK1.eq (OK1.call (nat_Norm (by first | with_reducible assumption | omega | (simp only [val_words]; omega))) (.cons (Has.t rfl) .nil)) (by first | (simp only [val_words]; rfl) | rfl)) rfl ?_
  refine st (OK1.mv (Has.t rfl)) rfl ?_
  refine st (OK1.eq (OK1.call (nat_Norm (by first | with_reducible assumption | omega | (simp only [val_words]; omega))) (.cons (Has.t rfl) .nil)) (by first | (simp only [val_words]; rfl) | rfl)) rfl ?_
  refine st (OK1.as (Has.t rfl)) rfl ?_
  refine st (OK1.as (Has.t rfl)) rfl ?_
  refine nl ?_
  refine At.thn (hK2 _ _ ?_); clear hK2
  refine Tri.seq fun K3 hK3 => ?_
  refine Tri.block ?_
  refine Tri.seq fun K4 hK4 => ?_
  refine Tri.region ?_
  refine st (OK1.mv (Has.t rfl)) rfl ?_
  refine st (OK1.len sl35 (Has.t rfl)) rfl ?_
  refine st (OK1.eqI (Has.t rfl) (Has.cI 0 rfl)) rfl ?_
  refine st (OK1.as (Has.t rfl)) rfl ?_
  refine nl ?_
  refine At.thn (hK4 _ _ ?_); clear hK4
  refine Tri.cv (Cv.wk (.cons (t := 0) (Has.t rfl) (.cons (t := 1) (Has.t rfl) (.cons (t := 4) (Has.t rfl) (.cons (t := 5) (Has.t rfl) (.cons (t := 6) (Has.t rfl) (.cons (t := 23) (Has.t rfl) .nil))))))) ?_
  refine Tri.cond (Has.t rfl) (fun hc1 => ?_) (fun hc1 => ?_)
  · have hc1 := BP.t hc1
    refine Tri.seq fun K5 hK5 => ?_
    refine Tri.region ?_
    refine st (OK1.as (Has.cW (f := isU))) rfl ?_
    refine st (OK1.as (Has.cW (f := isU))) rfl ?_
    refine st (OK1.as (Has.cB false)) rfl ?_
    refine nl ?_
    refine At.thn (hK5 _ _ ?_); clear hK5
    refine Tri.ret ?_
    refine At.blr ?_
    refine At.thr ?_
    refine rtN (.inl rfl) Try.results64 rfl rfl (.tmp (Has.t' rfl ?_) (.tmp (Has.t' rfl ?_) (.tmp (Has.t' rfl ?_) .nil)))
    · exact SlM_eq (by rw [bits_zero (A := val ys) (by omega), Nat.div_zero, words_zero])
    · exact SlM_eq (by rw [if_pos (bits_zero (A := val ys) (by omega)), words_zero])
    · exact isB_eq (by simp [bits_zero (show (List.length (words (val ys))) = 0 by omega)])
  · have hc1 := BP.f hc1
    refine Tri.seq fun K6 hK6 => ?_
    refine Tri.region ?_
    refine st (OK1.mv (Has.t rfl)) rfl ?_
    refine st (OK1.mv (Has.t rfl)) rfl ?_
    refine st (OK1.eq (OK1.call (nat_Cmp) (.cons (Has.t rfl) (.cons (Has.t rfl) .nil))) (by first | (simp only [val_words]; rfl) | rfl)) rfl ?_
    refine st (OK1.ltI (Has.t rfl) (Has.cI 0 rfl)) rfl ?_
    refine st (OK1.as (Has.t rfl)) rfl ?_
    refine nl ?_
    refine At.thn (hK6 _ _ ?_); clear hK6
    refine Tri.cv (Cv.wk (.cons (t := 0) (Has.t rfl) (.cons (t := 1) (Has.t rfl) (.cons (t := 4) (Has.t rfl) (.cons (t := 5) (Has.t rfl) (.cons (t := 6) (Has.t rfl) (.cons (t := 27) (Has.t rfl) .nil))))))) ?_
    refine Tri.cond (Has.t rfl) (fun hc2 => ?_) (fun hc2 => ?_)
    · have hc2 := BP.t hc2
      have hlt := cmpN_neg.1 hc2
      refine Tri.seq fun K7 hK7 => ?_
      refine Tri.region ?_
      refine st (OK1.mv (Has.t rfl)) rfl ?_
      refine st (OK1.as (Has.cW (f := isU))) rfl ?_
      refine st (OK1.as (Has.t rfl)) rfl ?_
      refine st (OK1.as (Has.cB true)) rfl ?_
      refine nl ?_
      refine At.thn (hK7 _ _ ?_); clear hK7
      refine Tri.ret ?_
      refine At.blr ?_
      refine At.thr ?_
      refine rtN (.inl rfl) Try.results64 rfl rfl (.tmp (Has.t' rfl ?_) (.tmp (Has.t' rfl ?_) (.tmp (Has.t' rfl ?_) .nil)))
      · exact SlM_eq (by rw [Nat.div_eq_of_lt hlt, words_zero])
      · exact SlM_eq (by rw [if_neg (by omega), Nat.mod_eq_of_lt hlt])
      · exact isB_eq (by simp; omega)
    · have hc2 := BP.f hc2
      have hle : val ys ≤ val xs := Nat.le_of_not_lt (fun h => by have := cmpN_neg.2 h; omega)
      refine Tri.seq fun K8 hK8 => ?_
      refine Tri.region ?_
      refine st (OK1.mv (Has.t rfl)) rfl ?_
      refine st (OK1.len sl35 (Has.t rfl)) rfl ?_
      refine st (OK1.eqI (Has.t rfl) (Has.cI 1 rfl)) rfl ?_
      refine st (OK1.as (Has.t rfl)) rfl ?_
      refine nl ?_
      refine At.thn (hK8 _ _ ?_); clear hK8
      refine Tri.cond (Has.t rfl) (fun hc3 => ?_) (fun hc3 => ?_)
      · have hc3 := BP.t hc3
        have hB : val ys ≠ 0 := fun e => by rw [e, words_zero] at hc1; simp at hc1
        refine Tri.seq fun K9 hK9 => ?_
        refine Tri.region ?_
        refine st (OK1.mv (Has.t rfl)) rfl ?_
        refine st (OK1.mv (Has.t rfl)) rfl ?_
        refine st (OK1.ixP sl35 ty66 (Has.t rfl) (Has.cI 0 rfl) ⟨by omega, by omega⟩ (getD_some (d := 0) (by first | omega | (simp only [Int.toNat_natCast, List.length_set]; omega)))) rfl ?_
        refine st (OK1.eq (OK1.loadP1 (Has.t rfl) ty66) ((show isU _ = isU (val ys) from isU_eq (one_word (by omega))))) rfl ?_
        refine st (OK1.eq (OK1.call (div_Small (by first | with_reducible assumption | omega | (simp only [val_words]; omega))) (.cons (Has.t rfl) (.cons (Has.t rfl) .nil))) (by first | (simp only [val_words]; rfl) | rfl)) rfl ?_
        refine st (OK1.mv (Has.t rfl)) rfl ?_
        refine st (OK1.ext (Has.t rfl) rfl) rfl ?_
        refine st (OK1.ext (Has.t rfl) rfl) rfl ?_
        refine st (OK1.ext (Has.t rfl) rfl) rfl ?_
        refine st (OK1.as (Has.t rfl)) rfl ?_
        refine st (OK1.as (Has.t rfl)) rfl ?_
        refine st (OK1.as (Has.t rfl)) rfl ?_
        refine nl ?_
        refine At.thn (hK9 _ _ ?_); clear hK9
        refine Tri.cv (Cv.wk (.cons (t := 0) (Has.t rfl) (.cons (t := 1) (Has.t rfl) (.cons (t := 4) (Has.t rfl) (.cons (t := 5) (Has.t rfl) (.cons (t := 6) (Has.t rfl) (.cons (t := 7) (Has.t rfl) (.cons (t := 8) (Has.t rfl) .nil)))))))) ?_
        refine Tri.seq fun K10 hK10 => ?_
        refine Tri.region ?_
        refine st (OK1.mv (Has.t rfl)) rfl ?_
        refine st (OK1.mv (Has.t rfl)) rfl ?_
        refine st (OK1.call (nat_Of) (.cons (Has.t rfl) .nil)) rfl ?_
        refine st (OK1.as (Has.t rfl)) rfl ?_
        refine st (OK1.as (Has.t rfl)) rfl ?_
        refine st (OK1.as (Has.cB true)) rfl ?_
        refine nl ?_
        refine At.thn (hK10 _ _ ?_); clear hK10
        refine Tri.cv (Cv.wk (.cons (t := 0) (Has.t rfl) (.cons (t := 1) (Has.t rfl) (.cons (t := 4) (Has.t rfl) (.cons (t := 5) (Has.t rfl) (.cons (t := 6) (Has.t rfl) .nil)))))) ?_
        refine Tri.ret ?_
        refine At.blr ?_
        refine At.thr ?_
        refine rtN (.inl rfl) Try.results64 rfl rfl (.tmp (Has.t' rfl ?_) (.tmp (Has.t' rfl ?_) (.tmp (Has.t' rfl ?_) .nil)))
        · rfl
        · rfl
        · exact isB_eq (by simp [hB])
      · have hc3 := BP.f hc3
        have hB : val ys ≠ 0 := fun e => by rw [e, words_zero] at hc1; simp at hc1
        obtain ⟨k, hk⟩ : ∃ k, k = 64 - bitLen (dig (val ys) ((List.length (words (val ys))) - 1)) := ⟨_, rfl⟩
        have D := dm hB hle hk
        have Dk := D.k64
        have Dv := D.v
        have Dw := D.w
        have Dl := D.le
        refine Tri.skip ?_
        refine At.bln ?_
        refine At.thn (hK3 _ _ ?_); clear hK3
        refine Tri.cv (Cv.wk (.cons (t := 0) (Has.t rfl) (.cons (t := 1) (Has.t rfl) (.cons (t := 4) (Has.t rfl) (.cons (t := 5) (Has.t rfl) (.cons (t := 6) (Has.t rfl) .nil)))))) ?_
        refine Tri.seq fun K11 hK11 => ?_
        refine Tri.region ?_
        refine st (OK1.mv (Has.t rfl)) rfl ?_
        refine st (OK1.mv (Has.t rfl)) rfl ?_
        refine st (OK1.len sl35 (Has.t rfl)) rfl ?_
        refine st (OK1.subI (Has.t rfl) (Has.cI 1 rfl) (by first | with_reducible assumption | omega | (simp only [val_words]; omega)) (by first | with_reducible assumption | omega | (simp only [val_words]; omega))) rfl ?_
        refine st (OK1.ixP sl35 ty66 (Has.t rfl) (Has.t rfl) ⟨by omega, by omega⟩ (getD_some (d := 0) (by first | omega | (simp only [Int.toNat_natCast, List.length_set]; omega)))) rfl ?_
        refine st (OK1.eq (OK1.loadP1 (Has.t rfl) ty66) ((show isU _ = isU (dig (val ys) ((List.length (words (val ys))) - 1)) from isU_eq (getV (by omega))))) rfl ?_
        refine st (OK1.eq (OK1.call (bits_LZ64) (.cons (Has.t rfl) .nil)) ((show isI _ = isI ((k : Nat) : Int) from isI_eq (by rw [hk])))) rfl ?_
        refine st (OK1.as (Has.t rfl)) rfl ?_
        refine nl ?_
        refine At.thn (hK11 _ _ ?_); clear hK11
        refine Tri.cv (Cv.wk (.cons (t := 0) (Has.t rfl) (.cons (t := 1) (Has.t rfl) (.cons (t := 4) (Has.t rfl) (.cons (t := 5) (Has.t rfl) (.cons (t := 6) (Has.t rfl) (.cons (t := 10) (Has.t rfl) .nil))))))) ?_
        refine Tri.seq fun K12 hK12 => ?_
        refine Tri.region ?_
        refine st (OK1.mv (Has.t rfl)) rfl ?_
        refine st (OK1.mv (Has.t rfl)) rfl ?_
        refine st (OK1.eq (OK1.call (nat_Shl (by omega) (by rw [val_words]; omega)) (.cons (Has.t rfl) (.cons (Has.t rfl) .nil))) (by first | (simp only [val_words]; rfl) | rfl)) rfl ?_
        refine st (OK1.mv (Has.t rfl)) rfl ?_
        refine st (OK1.ext (Has.t rfl) rfl) rfl ?_
        refine st (OK1.ext (Has.t rfl) rfl) rfl ?_
        refine st (OK1.as (Has.t rfl)) rfl ?_
        refine st (OK1.as (Has.t rfl)) rfl ?_
        refine nl ?_
        refine At.thn (hK12 _ _ ?_); clear hK12
        refine Tri.cv (Cv.wk (.cons (t := 0) (Has.t rfl) (.cons (t := 4) (Has.t rfl) (.cons (t := 5) (Has.t rfl) (.cons (t := 6) (Has.t rfl) (.cons (t := 10) (Has.t rfl) (.cons (t := 11) (Has.t rfl) .nil))))))) ?_
        refine Tri.seq fun K13 hK13 => ?_
        refine Tri.region ?_
        refine st (OK1.mv (Has.t rfl)) rfl ?_
        refine st (OK1.mv (Has.t rfl)) rfl ?_
        refine st (OK1.eq (OK1.call (nat_Shl (by omega) (by rw [val_words]; omega)) (.cons (Has.t rfl) (.cons (Has.t rfl) .nil))) (by first | (simp only [val_words]; rfl) | rfl)) rfl ?_
        refine st (OK1.mv (Has.t rfl)) rfl ?_
        refine st (OK1.ext (Has.t rfl) rfl) rfl ?_
        refine st (OK1.ext (Has.t rfl) rfl) rfl ?_
        refine st (OK1.as (Has.t rfl)) rfl ?_
        refine st (OK1.as (Has.t rfl)) rfl ?_
        refine nl ?_
        refine At.thn (hK13 _ _ ?_); clear hK13
        refine Tri.cv (Cv.wk (.cons (t := 0) (Has.t rfl) (.cons (t := 4) (Has.t rfl) (.cons (t := 5) (Has.t rfl) (.cons (t := 6) (Has.t rfl) (.cons (t := 10) (Has.t rfl) (.cons (t := 11) (Has.t rfl) (.cons (t := 13) (Has.t rfl) .nil)))))))) ?_
        refine Tri.seq fun K14 hK14 => ?_
        refine Tri.region ?_
        refine st (OK1.mv (Has.t rfl)) rfl ?_
        refine st (OK1.len sl35 (Has.t rfl)) rfl ?_
        refine st (OK1.addI (Has.t rfl) (Has.cI 1 rfl) (by first | with_reducible assumption | omega | (simp only [val_words]; omega)) (by first | with_reducible assumption | omega | (simp only [val_words]; omega))) rfl ?_
        refine Ops.make (f := isU) (u := 0) (n := (List.length (words (val xs))) + 1) (c := (List.length (words (val xs))) + 1) sl35 ty66 zero66 (fun _ _ => ⟨⟨rfl, by decide⟩, trivial⟩) by66 (Has.t' rfl rfl) (Has.t' rfl rfl) ⟨by omega, by omega⟩ rfl fun b1 => ?_
        refine st (OK1.as (Has.t rfl)) rfl ?_
        refine nl ?_
        refine At.thn (hK14 _ _ ?_); clear hK14
        refine Tri.cv (Cv.wk (.cons (t := 4) (Has.t rfl) (.cons (t := 5) (Has.t rfl) (.cons (t := 6) (Has.t rfl) (.cons (t := 10) (Has.t rfl) (.cons (t := 11) (Has.t rfl) (.cons (t := 13) (Has.t rfl) (.cons (t := 15) (Has.t rfl) .nil)))))))) ?_
        refine Tri.seq fun K15 hK15 => ?_
        refine Tri.region ?_
        refine st (OK1.mv (Has.t rfl)) rfl ?_
        refine st (OK1.mv (Has.t rfl)) rfl ?_
        refine Ops.copyW sl35 ty66 (fun _ => inferInstance) (Has.t rfl) (Has.t rfl) (i := 0) rfl ⟨Dw, by simp⟩ rfl (M' := [(some b1, cellM (List.map isU (wordsN ((List.length (words (val xs))) + 1) (val xs * 2 ^ k))))]) (memL_eq (copy_words Dw)) ?_
        refine nl ?_
        refine At.thn (hK15 _ _ ?_); clear hK15
        refine Tri.seq fun K16 hK16 => ?_
        refine Tri.region ?_
        refine st (OK1.mv (Has.t rfl)) rfl ?_
        refine st (OK1.mv (Has.t rfl)) rfl ?_
        refine Ops.callM (div_long (N := val xs * 2 ^ k) (v := val ys * 2 ^ k) (m := (List.length (words (val xs))) + 1) (by omega) (by omega) (by omega) D.lt) (i := 0) rfl (.cons (Has.t rfl) (.cons (Has.t rfl) .nil)) rfl (M' := [(_, _)]) rfl ?_
        refine st (OK1.as (Has.t rfl)) rfl ?_
        refine nl ?_
        refine At.thn (hK16 _ _ ?_); clear hK16
        refine Tri.cv (Cv.wk (.cons (t := 4) (Has.t rfl) (.cons (t := 5) (Has.t rfl) (.cons (t := 6) (Has.t rfl) (.cons (t := 10) (Has.t rfl) (.cons (t := 15) (Has.t rfl) (.cons (t := 16) (Has.t rfl) .nil))))))) ?_
        refine Tri.seq fun K17 hK17 => ?_
        refine Tri.cv (Cv.freeze' (t := 15) (i := 0) (ys := wordsN ((List.length (words (val xs))) + 1) (left (val xs * 2 ^ k) (val ys * 2 ^ k) 0)) rfl rfl rfl (by simp [wordsN_len]) (freeze_all (wordsN_len _ _).symm)) ?_
        refine Tri.memEq (M' := []) rfl ?_
        refine Tri.cv (Cv.wk (.cons (t := 4) (Has.t rfl) (.cons (t := 5) (Has.t rfl) (.cons (t := 6) (Has.t rfl) (.cons (t := 10) (Has.t rfl) (.cons (t := 15) (Has.t rfl) (.cons (t := 16) (Has.t rfl) .nil))))))) ?_
        refine Tri.region ?_
        refine st (OK1.mv (Has.t rfl)) rfl ?_
        refine st (OK1.mv (Has.t rfl)) rfl ?_
        refine st (OK1.call (nat_Shr (by omega) (by have := nw_val_wordsN ((List.length (words (val xs))) + 1) (left (val xs * 2 ^ k) (val ys * 2 ^ k) 0); omega)) (.cons (Has.t rfl) (.cons (Has.t rfl) .nil))) rfl ?_
        refine st (OK1.mv (Has.t rfl)) rfl ?_
        refine st (OK1.ext (Has.t rfl) rfl) rfl ?_
        refine st (OK1.ext (Has.t rfl) rfl) rfl ?_
        refine st (OK1.as (Has.t rfl)) rfl ?_
        refine st (OK1.as (Has.t rfl)) rfl ?_
        refine nl ?_
        refine At.thn (hK17 _ _ ?_); clear hK17
        refine Tri.cv (Cv.wk (.cons (t := 4) (Has.t rfl) (.cons (t := 5) (Has.t rfl) (.cons (t := 6) (Has.t rfl) (.cons (t := 16) (Has.t rfl) (.cons (t := 17) (Has.t rfl) .nil)))))) ?_
        refine Tri.seq fun K18 hK18 => ?_
        refine Tri.region ?_
        refine st (OK1.mv (Has.t rfl)) rfl ?_
        refine st (OK1.call (nat_Norm (by have := nw_val_wordsN ((List.length (words (val xs))) + 1 - (List.length (words (val ys * 2 ^ k)))) (val xs * 2 ^ k / (val ys * 2 ^ k)); omega)) (.cons (Has.t rfl) .nil)) rfl ?_
        refine st (OK1.mv (Has.t rfl)) rfl ?_
        refine st (OK1.as (Has.t rfl)) rfl ?_
        refine st (OK1.as (Has.t rfl)) rfl ?_
        refine st (OK1.as (Has.cB true)) rfl ?_
        refine nl ?_
        refine At.thn (hK18 _ _ ?_); clear hK18
        refine Tri.cv (Cv.wk (.cons (t := 4) (Has.t rfl) (.cons (t := 5) (Has.t rfl) (.cons (t := 6) (Has.t rfl) .nil)))) ?_
        refine Tri.ret ?_
        refine rtN (.inl rfl) Try.results64 rfl rfl (.tmp (Has.t' rfl ?_) (.tmp (Has.t' rfl ?_) (.tmp (Has.t' rfl ?_) .nil)))
        · exact SlM_eq (dm_quo hB D rfl rfl)
        · exact SlM_eq (by rw [if_neg hB, dm_rest hB D rfl])
        · exact isB_eq (by simp [hB])
set_option maxHeartbeats 4000000 in
theorem nat_Bits {xs : List Nat} (hx : (List.length (words (val xs))) < 4294967296) : Ctr Try.prog 45 [isWords xs] (isI ((bitLen (val xs) : Nat) : Int)) := by
  refine Ctr.intro Try.func45 rfl (by kernel_rfl) Try.ntmps45 rfl fun w0 F0 => ?_
  refine Tri.cv (Cv.wk (.cons (t := 0) (Has.t rfl) .nil)) ?_
  refine Tri.fact (Has.lenLt (Has.t (t := 0) rfl)) fun lt0 => ?_
  refine Tri.fact (Has.okW (Has.t (t := 0) rfl)) fun ok0 => ?_
  refine Tri.seq fun K1 hK1 => ?_
  refine Tri.region ?_
  refine st (OK1.as (Has.cI 0 rfl)) rfl ?_
  refine nl ?_
  refine At.thn (hK1 _ _ ?_); clear hK1
  refine Tri.seq fun K2 hK2 => ?_
  refine Tri.region ?_
  refine st (OK1.mv (Has.t rfl)) rfl ?_
  refine st (OK1.call (nat_trim) (.cons (Has.t rfl) .nil)) rfl ?_
  refine st (OK1.as (Has.t rfl)) rfl ?_
  refine nl ?_
  refine At.thn (hK2 _ _ ?_); clear hK2
  refine Tri.seq fun K3 hK3 => ?_
  refine Tri.seq fun K4 hK4 => ?_
  refine Tri.region ?_
  refine st (OK1.mv (Has.t rfl)) rfl ?_
  refine st (OK1.len sl35 (Has.t rfl)) rfl ?_
  refine st (OK1.eqI (Has.t rfl) (Has.cI 0 rfl)) rfl ?_
  refine nl ?_
  refine At.thn (hK4 _ _ ?_); clear hK4
  refine Tri.cond (Has.t rfl) (fun hc1 => ?_) (fun hc1 => ?_)
  · have hc1 := BP.t hc1
    refine Tri.seq fun K5 hK5 => ?_
    refine Tri.region ?_
    refine st (OK1.as (Has.cI 0 rfl)) rfl ?_
    refine nl ?_
    refine At.thn (hK5 _ _ ?_); clear hK5
    refine Tri.cv (Cv.wk (.cons (t := 0) (Has.t rfl) (.cons (t := 2) (Has.t rfl) .nil))) ?_
    refine Tri.ret ?_
    refine At.thr ?_
    refine rt1 (.inl rfl) Try.results45 rfl (.tmp (Has.t' rfl ?_) .nil)
    all_goals (exact isI_eq (by rw [bits_zero (A := val xs) (by omega)]; rfl))
  · have hc1 := BP.f hc1
    have hb := bits_int (A := val xs) (by omega)
    have hd := bitLen_le64 (dig_lt (val xs) ((List.length (words (val xs))) - 1))
    refine Tri.skip ?_
    refine At.thn (hK3 _ _ ?_); clear hK3
    refine Tri.cv (Cv.wk (.cons (t := 0) (Has.t rfl) (.cons (t := 2) (Has.t rfl) .nil))) ?_
    refine Tri.seq fun K6 hK6 => ?_
    refine Tri.region ?_
    refine st (OK1.mv (Has.t rfl)) rfl ?_
    refine st (OK1.len sl35 (Has.t rfl)) rfl ?_
    refine st (OK1.subI (Has.t rfl) (Has.cI 1 rfl) (by first | with_reducible assumption | omega | (simp only [val_words]; omega)) (by first | with_reducible assumption | omega | (simp only [val_words]; omega))) rfl ?_
    refine st (OK1.mulI (Has.cI 64 rfl) (Has.t rfl) (by first | with_reducible assumption | omega | (simp only [val_words]; omega)) (by first | with_reducible assumption | omega | (simp only [val_words]; omega))) rfl ?_
    refine st (OK1.mv (Has.t rfl)) rfl ?_
    refine st (OK1.mv (Has.t rfl)) rfl ?_
    refine st (OK1.len sl35 (Has.t rfl)) rfl ?_
    refine st (OK1.subI (Has.t rfl) (Has.cI 1 rfl) (by first | with_reducible assumption | omega | (simp only [val_words]; omega)) (by first | with_reducible assumption | omega | (simp only [val_words]; omega))) rfl ?_
    refine st (OK1.ixP sl35 ty66 (Has.t rfl) (Has.t rfl) ⟨by omega, by omega⟩ (getD_some (d := 0) (by first | omega | (simp only [Int.toNat_natCast, List.length_set]; omega)))) rfl ?_
    refine st (OK1.eq (OK1.loadP1 (Has.t rfl) ty66) ((show isU _ = isU (dig (val xs) ((List.length (words (val xs))) - 1)) from isU_eq (getV (by omega))))) rfl ?_
    refine st (OK1.call (bits_Len64) (.cons (Has.t rfl) .nil)) rfl ?_
    refine st (OK1.addI (Has.t rfl) (Has.t rfl) (by first | with_reducible assumption | omega | (simp only [val_words]; omega)) (by first | with_reducible assumption | omega | (simp only [val_words]; omega))) rfl ?_
    refine st (OK1.as (Has.t rfl)) rfl ?_
    refine nl ?_
    refine At.thn (hK6 _ _ ?_); clear hK6
    refine Tri.cv (Cv.wk (.cons (t := 2) (Has.t rfl) .nil)) ?_
    refine Tri.ret ?_
    refine rt1 (.inl rfl) Try.results45 rfl (.tmp (Has.t' rfl ?_) .nil)
    all_goals (exact isI_eq (by omega))
theorem gcd_le_max (a b : Nat) : Nat.gcd a b ≤ max a b := by
  rcases Nat.eq_zero_or_pos a with h | h
  · subst h; rw [Nat.gcd_zero_left]; exact Nat.le_max_right _ _
  · exact Nat.le_trans (Nat.gcd_le_left b h) (Nat.le_max_left _ _)
theorem nw_max (a b : Nat) : (List.length (words (max a b))) ≤ max ((List.length (words a))) ((List.length (words b))) := by
  rcases Nat.le_total a b with h | h
  · rw [Nat.max_eq_right h]; omega
  · rw [Nat.max_eq_left h]; omega
end Go.Proofs.Ytcfobfedliajdaa
/- Numbers as digits of 16 bits. No program here. (written by mkdig.py) -/
namespace Go.Nt
abbrev D : Nat := 65536
/-- the number of some digs, the least significant first -/
def dval : List Nat → Nat
  | [] => 0
  | x :: xs => x + D * dval xs
end Go.Nt
/- Slices whose elements take more cells than one: parts, new rows, stores, growth, freezing. -/
namespace Go.En
open Go.RowKit
set_option linter.unusedVariables false
section
variable {E : Env} {P : Program} {Γ : Ctx} {M : Mem} {ty : TypeId} {pos : String} {after : Array Edge} {gd : Option (Nat × Bool)} {d : Option Tmp}
  {ops : Array Oper} {Q : Exit → Act → World → Prop} {rest : List Oper} {T T' : TypeId} {x y : Operand} {α : Type} {f : α → VP} {fk : α → List VP} {xs : List α} {k : Nat}
theorem flat_len (hk : ∀ y, (fk y).length = k) : ∀ (xs : List α), (xs.flatMap fk).length = xs.length * k
  | [] => by simp
  | a :: l => by rw [List.flatMap_cons, List.length_append, hk, flat_len hk l, List.length_cons, Nat.succ_mul]; omega
theorem flat_take (hk : ∀ y, (fk y).length = k) : ∀ (n : Nat) (xs : List α), (xs.flatMap fk).take (n * k) = (xs.take n).flatMap fk
  | 0, xs => by simp
  | n + 1, [] => by simp
  | n + 1, a :: l => by
    rw [List.flatMap_cons, List.take_succ_cons, List.flatMap_cons, Nat.succ_mul, Nat.add_comm, ← hk a, List.take_length_add_append, hk a, flat_take hk n l]
theorem flat_skip (hk : ∀ y, (fk y).length = k) : ∀ (n : Nat) (xs : List α), (xs.flatMap fk).drop (n * k) = (xs.drop n).flatMap fk
  | 0, xs => by simp
  | n + 1, [] => by simp
  | n + 1, a :: l => by
    rw [List.flatMap_cons, List.drop_succ_cons, Nat.succ_mul, Nat.add_comm, ← hk a, List.drop_length_add_append, hk a, flat_skip hk n l]
theorem flat_part (hk : ∀ y, (fk y).length = k) (l h : Nat) (xs : List α) : ((xs.flatMap fk).take (h * k)).drop (l * k) = ((xs.take h).drop l).flatMap fk := by
  rw [flat_take hk, flat_skip hk]
theorem SlK_of {n : Nat} {Ss : List VP} {xs : List α} (h1 : n = xs.length) (h2 : Ss = xs.flatMap fk) : SlL k n Ss = SlK k fk xs := by subst h1; subst h2; rfl
theorem All2.rep {z : List VP} {vs : List Value} {w : World} {F : Blk} (h : All2 z w F vs) : ∀ c, All2 ((List.replicate c z).flatten) w F ((List.replicate c vs).flatten)
  | 0 => trivial
  | c + 1 => by rw [List.replicate_succ, List.replicate_succ, List.flatten_cons, List.flatten_cons]; exact All2.append h (All2.rep h c)
theorem rep_flat {u : α} : ∀ c, (List.replicate c u).flatMap fk = (List.replicate c (fk u)).flatten
  | 0 => rfl
  | c + 1 => by rw [List.replicate_succ, List.replicate_succ, List.flatMap_cons, List.flatten_cons, rep_flat c]
/-- a new row of such elements -/
theorem Ops.makeK {d : Nat} {e : TypeId} {g : Bool} {z : Value} {n c : Nat} {u : α} (hT : slB P T = some e) (ht : tyB P e = some (k, g)) (hz : zeroB P e = some z) (hZ : ∀ w F, All2 (fk u) w F z.cells.toList) (hk : ∀ y, (fk y).length = k) (hby : byLe P e 1024 = true)
    (hx : Has E Γ M x (isI (n : Int))) (hy : Has E Γ M y (isI (c : Int))) (hn : n ≤ c ∧ c ≤ 4294967296) (hd : Nat.blt d E.n = true)
    (kk : ∀ b, Ops E P ops Q rest ((d, isWin b 0 n c) :: Γ) ((some b, cellM ((List.replicate c u).flatMap fk)) :: M)) : Ops E P ops Q (⟨some d, .makeSlice T x y, ty, pos, after, none⟩ :: rest) Γ M := by
  intro a w F s
  refine wpList_plain rfl fun K hK => ?_
  unfold Oper.wp
  have hm : z.cells.size = k := by have := (hZ w F).len; rw [hk] at this; simpa using this.symm
  obtain ⟨i, hi, hb⟩ : ∃ i, P.info? e = some i ∧ i.bytes ≤ 1024 := by
    unfold byLe at hby
    cases hi : P.info? e with
    | none => simp [hi] at hby
    | some i => rw [hi] at hby; exact ⟨i, rfl, Nat.le_of_ble_eq_true hby⟩
  have hr : (execOp a.eval (⟨some d, .makeSlice T x y, ty, pos, after, none⟩ : Oper)).run P w = .ok (.value (.slice (some ⟨w.heap.size, 0, none⟩) n c)) { w with heap := w.heap.push (.cells ((List.replicate c z.cells.toList).flatten).toArray e) } := by
    simp only [execOp, evI hx a w F s, evI hy a w F s, Sem.run_bind, run_make hT ht hz hi hb hn.1 hn.2 hm, Result.andThen_ok, Sem.run_pure]
  rw [hr]
  have hall : All2 ((List.replicate c u).flatMap fk) w F ((List.replicate c z.cells.toList).flatten) := by rw [rep_flat]; exact (hZ w F).rep c
  have s1 := s.alloc (T := e) hall
  have hd' : d < E.n := by simpa [Nat.blt_eq] using hd
  exact hK _ _ (kk w.heap.size _ _ F (s1.put hd' ⟨rfl, hn.1, by rw [maxLen_eq]; omega⟩))
theorem flat_set (hk : ∀ y, (fk y).length = k) (z : α) : ∀ (j : Nat) (xs : List α), j < xs.length → (xs.flatMap fk).take (j * k) ++ fk z ++ (xs.flatMap fk).drop (j * k + k) = (xs.set j z).flatMap fk
  | j, xs, hj => by
    rw [← Nat.succ_mul, flat_take hk, flat_skip hk, List.set_eq_take_append_cons_drop, if_pos hj, List.flatMap_append, List.flatMap_cons, List.append_assoc]
/-- a store of an element -/
theorem Ops.storeK {b i j : Nat} {g : Bool} {T : TypeId} {S : VP} {z : α} [sh : Shape S (fk z)] [o1 : Ones (fk z)] (hk : ∀ y, (fk y).length = k) (hx : Has E Γ M x (isPtr b (j * k))) (hy : Has E Γ M y S)
    (hM : M[i]? = some (some b, cellM (xs.flatMap fk))) (hT : tyB P T = some (k, g)) (hl : j < xs.length) {M' : Mem}
    (hM' : M.set i (some b, cellM ((xs.set j z).flatMap fk)) = M') (kk : Ops E P ops Q rest Γ M') : Ops E P ops Q (⟨none, .store T x y, ty, pos, after, none⟩ :: rest) Γ M :=
  Ops.store (Ss1 := fk z) hx hy hM hT (by rw [hk, Nat.beq_eq]) (by
    rw [Nat.ble_eq, flat_len hk, ← Nat.succ_mul]; exact Nat.mul_le_mul_right k hl) (Ss' := (xs.set j z).flatMap fk) (flat_set hk z j xs hl) hM' kk
/-- a block that is not written any more -/
theorem Cv.freezeL {t b o n c i : Nat} {Ss : List VP} (hW : E.W = []) (ht : look Γ t = some (isWin b o n c)) (hM : M[i]? = some (some b, cellM Ss)) (hl : o + n * k ≤ Ss.length) : Cv E Γ M ((t, SlL k n ((Ss.drop o).take (n * k))) :: Γ) (M.eraseIdx i) := by
  intro a w F s
  obtain ⟨h1, h2, h3, ob, h4, vs, T', rfl, hv⟩ := s.mem.each b _ (List.mem_of_getElem? hM)
  refine ⟨fun k => F k ∨ k = b, ?_⟩
  have hsub : ∀ k, F k → (F k ∨ k = b) := fun k hk => .inl hk
  have hi : i < M.length := by
    rcases Nat.lt_or_ge i M.length with h | h
    · exact h
    · rw [List.getElem?_eq_none h] at hM; cases hM
  have hMi : M[i] = (some b, cellM Ss) := by rw [List.getElem?_eq_getElem hi] at hM; exact Option.some.inj hM
  have hbW : E.w0.heap.size ≤ b := h1.resolve_right (by rw [hW]; simp)
  obtain ⟨e1, e2, e3⟩ := s.slots t _ ht
  · refine { defers := s.defers, size := s.size, keep := s.keep, f0 := fun k hk => .inl (s.f0 k hk), fnew := ?_, flt := ?_, slots := ?_, mem := ⟨s.mem.apart.sublist (List.eraseIdx_sublist _ _), ?_⟩ }
    · rintro k (hk | rfl)
      · exact s.fnew k hk
      · exact .inr ⟨hbW, h2⟩
    · rintro k (hk | rfl)
      · exact s.flt k hk
      · exact h2
    · intro t' S' ht'
      simp only [look] at ht'
      cases hb : Nat.beq t t' with
      | false => rw [hb] at ht'; exact S'.mono _ _ _ _ _ (s.slots t' S' ht') (fun _ _ => rfl) hsub
      | true =>
        rw [hb] at ht'
        obtain rfl : SlL k n ((Ss.drop o).take (n * k)) = S' := by simpa using ht'
        obtain rfl := Nat.eq_of_beq_eq_true hb
        have hlen : ((Ss.drop o).take (n * k)).length = n * k := by rw [List.length_take, List.length_drop]; omega
        refine ⟨some ⟨b, o, none⟩, c, e1, e2, e3, hlen, ?_⟩
        right
        refine ⟨b, o, rfl, .inr rfl, (vs.drop o).take (n * k), All2.mono (fun _ _ => rfl) hsub _ _ ((hv.drop o).take (n * k)), fun j u hj => ?_⟩
        have hjn : j < n * k := by
          rcases Nat.lt_or_ge j (n * k) with h | h
          · exact h
          · rw [List.getElem?_take_eq_none h] at hj; cases hj
        rw [List.getElem?_take_of_lt hjn, List.getElem?_drop] at hj
        simp [World.cell?, h4, hj]
    · intro k C hk
      obtain ⟨j, hji, hj⟩ := List.mem_eraseIdx_iff_getElem?.1 hk
      obtain ⟨g1, g2, g3, o2, g4, g5⟩ := s.mem.each k C (List.mem_of_getElem? hj)
      have hkb : k ≠ b := by
        intro e; subst e
        have hjl : j < M.length := by
          rcases Nat.lt_or_ge j M.length with h | h
          · exact h
          · rw [List.getElem?_eq_none h] at hj; cases hj
        have hMj : M[j] = (some k, C) := by rw [List.getElem?_eq_getElem hjl] at hj; exact Option.some.inj hj
        rcases Nat.lt_or_gt_of_ne hji with hlt | hlt
        · have hp := List.pairwise_iff_getElem.1 s.mem.apart j i hjl hi hlt
          rw [hMi, hMj] at hp; simp at hp
        · have hp := List.pairwise_iff_getElem.1 s.mem.apart i j hi hjl hlt
          rw [hMi, hMj] at hp; simp at hp
      exact ⟨g1, g2, fun h => h.elim g3 hkb, o2, g4, C.mono _ _ _ _ _ g5 (fun _ _ => rfl) hsub⟩
theorem Cv.freezeK {t b n c i : Nat} {ys : List α} (hk : ∀ y, (fk y).length = k) (hW : E.W = []) (ht : look Γ t = some (isWin b 0 n c)) (hM : M[i]? = some (some b, cellM (xs.flatMap fk))) (hl : n ≤ xs.length) (he : xs.take n = ys) :
    Cv E Γ M ((t, SlK k fk ys) :: Γ) (M.eraseIdx i) := by
  have h := Cv.freezeL (E := E) (k := k) hW ht hM (by rw [flat_len hk, Nat.zero_add]; exact Nat.mul_le_mul_right k hl)
  rw [List.drop_zero, flat_take hk, he] at h
  rwa [SlK_of (by rw [← he, List.length_take]; omega) rfl] at h
def grMK (fk : α → List VP) (g : Gr α) (ys : List α) : Option Nat × MP := (g.ob, cellM ((ys ++ g.sp).flatMap fk))
theorem Cv.grow0K (fk : α → List VP) : Cv E Γ M Γ (grMK fk Gr.nil [] :: M) := fun a w F s =>
  ⟨F, { s with mem := ⟨List.Pairwise.cons (fun x hx => .inl rfl) s.mem.apart, fun b C hb => by
    rcases List.mem_cons.1 hb with e | hb
    · cases e
    · exact s.mem.each b C hb⟩ }⟩
theorem All2.ofFlat {w : World} {F : Blk} {vs : List Value} (hk : ∀ y, (fk y).length = k) (h : All2 (xs.flatMap fk) w F vs) : vs.length = xs.length * k := by
  rw [← h.len, flat_len hk]
/-- elements appended to a slice that grows -/
theorem Ops.appendGK {d i : Nat} {e : TypeId} {g0 : Bool} {z : Value} {u : α} {g : Gr α} {ys zs : List α} (hk : ∀ y, (fk y).length = k) (hk0 : 0 < k) (h1 : ∀ u, Ones (fk u)) (hT : slB P T = some e) (ht : tyB P e = some (k, g0)) (hz : zeroB P e = some z) (hZ : ∀ w F, All2 (fk u) w F z.cells.toList) (hby : byLe P e 1024 = true)
    (hx : Has E Γ M x (isGr g ys.length)) (hM : M[i]? = some (grMK fk g ys)) (hy : Has E Γ M y (SlK k fk zs)) (hn' : ys.length + zs.length ≤ 4294967296) (h0 : 0 < zs.length) (hd : Nat.blt d E.n = true)
    (kk : ∀ g' : Gr α, Ops E P ops Q rest ((d, isGr g' (ys.length + zs.length)) :: Γ) (M.set i (grMK fk g' (ys ++ zs)))) :
    Ops E P ops Q (⟨some d, .call ⟨.builtin .append, #[x, y], #[T, T]⟩, ty, pos, after, none⟩ :: rest) Γ M := by
  intro a w F s
  refine wpList_plain rfl fun K hK => ?_
  have hd' : d < E.n := by simpa [Nat.blt_eq] using hd
  obtain ⟨a1, cap, e2, g1, g2, g3, g4⟩ := hy a w F s
  have hu := slB_under hT
  obtain ⟨inf, hi, hb⟩ : ∃ i, P.info? e = some i ∧ i.bytes ≤ 1024 := by
    unfold byLe at hby
    cases hi : P.info? e with
    | none => simp [hi] at hby
    | some i => rw [hi] at hby; exact ⟨i, rfl, Nat.le_of_ble_eq_true hby⟩
  have hsz : inf.size = k := by
    have := run_size (P := P) (w := w) ht
    simp [sizeOf, typeInfo, go_sem, hi] at this; exact this
  have hzz : inf.zero = some z := by unfold zeroB at hz; rw [hi] at hz; simpa using hz
  have hone : z.cells.size = k := by have := (hZ w F).len; rw [hk] at this; simpa using this.symm
  have hzs : ∀ k, (Builtin.zeroCells z.cells k).toList = (List.replicate k z.cells.toList).flatten := fun k => by
    unfold Builtin.zeroCells
    rw [make_flat rfl]
  have hall : ∀ c, All2 ((List.replicate c u).flatMap fk) w F ((List.replicate c z.cells.toList).flatten) := fun c => by rw [rep_flat]; exact (hZ w F).rep c
  rcases g4 with g4 | ⟨b1, off, rfl, hF, vs, hv, hc⟩
  · omega
  have hlen := hv.ofFlat hk
  have hnews : ∀ j u, vs[j]? = some u → w.cell? ((⟨b1, off, none⟩ : Addr).add j) = some u := fun j u hj => by rw [add_mk]; exact hc j u hj
  have hnl : vs.length = zs.length * inf.size := by rw [hsz]; exact hlen
  -- a new row
  have hfresh : ∀ (olds : List Value), All2 (ys.flatMap fk) w F olds → ∀ cp, ys.length + zs.length ≤ cp → cp ≤ maxLen →
      K (a.put (some d) (.slice (some ⟨w.heap.size, 0, none⟩) (ys.length + zs.length) cp)) { w with heap := w.heap.push (.cells (olds ++ vs ++ (Builtin.zeroCells z.cells (cp - (ys.length + zs.length))).toList).toArray e), drawn := w.drawn + 1 } := by
    intro olds ho cp h1 h2
    have hcs : All2 ((ys ++ zs ++ List.replicate (cp - (ys.length + zs.length)) u).flatMap fk) w F (olds ++ vs ++ (Builtin.zeroCells z.cells (cp - (ys.length + zs.length))).toList) := by
      rw [List.flatMap_append, List.flatMap_append, hzs]; exact All2.append (All2.append ho hv) (hall _)
    have s1 := (s.adv (Adv.drew w F)).alloc (T := e) (All2.mono (w := w) (w' := { w with drawn := w.drawn + 1 }) (fun _ _ => rfl) (fun _ h => h) _ _ hcs)
    refine hK _ _ (kk ⟨some w.heap.size, cp, List.replicate (cp - (ys.length + zs.length)) u⟩ _ _ F ((s1.swap (i := i)).put hd' (.inr ⟨_, rfl, rfl, ?_, h2⟩)))
    simp; omega
  unfold Oper.wp
  have hml : ys.length + zs.length ≤ maxLen := by rw [maxLen_eq]; omega
  rcases hx a w F s with ⟨hob, hyl, e1⟩ | ⟨b, hob, e1, hcap, hcm0⟩
  · have hbytes : zs.length * inf.bytes ≤ 281474976710656 := by have := Nat.mul_le_mul (show zs.length ≤ 4294967296 by omega) hb; omega
    have hy0 : ys = [] := List.eq_nil_of_length_eq_zero hyl
    have hr := run_append_nil (P := P) w T ty e inf z hu hi hzz ⟨b1, off, none⟩ zs.length cap vs hnl hnews (by omega) (by omega) hbytes
    have hf := hfresh [] (by rw [hy0]; trivial) (grownCap w zs.length 0 e) (by rw [hyl, Nat.zero_add]; exact grownCap_ge _ _ _ _) (grownCap_le_maxLen _ _ _ _ (by omega))
    rw [hyl, Nat.zero_add, List.nil_append] at hf
    have hr2 : (execOp a.eval (⟨some d, .call ⟨.builtin .append, #[x, y], #[T, T]⟩, ty, pos, after, none⟩ : Oper)).run P w = .ok (.value (.slice (some ⟨w.heap.size, 0, none⟩) zs.length (grownCap w zs.length 0 e))) { w with heap := w.heap.push (.cells (vs ++ (Builtin.zeroCells z.cells (grownCap w zs.length 0 e - zs.length)).toList).toArray e), drawn := w.drawn + 1 } := by
      have earr : vs.toArray ++ Builtin.zeroCells z.cells (grownCap w zs.length 0 e - zs.length) = (vs ++ (Builtin.zeroCells z.cells (grownCap w zs.length 0 e - zs.length)).toList).toArray := by apply Array.ext'; simp
      simp only [execOp, resolve, invoke, builtin, Sem.run_bind]
      rw [← earr]
      simp [e1, e2, Sem.run_bind, hr]
      first | rfl | exact ⟨rfl, rfl⟩ | done
    rw [hr2]
    exact hf
  · have hM' : M[i]? = some (some b, cellM ((ys ++ g.sp).flatMap fk)) := by rw [hM]; unfold grMK; rw [hob]
    obtain ⟨o, ho, us, T', rfl, hus⟩ := mem_at s hM'
    have husl := hus.ofFlat hk
    rw [List.length_append] at husl
    have hyk : ys.length * k ≤ us.length := by rw [husl]; exact Nat.mul_le_mul_right k (by omega)
    rcases Nat.lt_or_ge g.c (ys.length + zs.length) with hg | hg
    · have holds : All2 (ys.flatMap fk) w F (us.take (ys.length * k)) := by
        have := hus.take (ys.length * k)
        rwa [flat_take hk, List.take_left' rfl] at this
      have hcell : ∀ j u, (us.take (ys.length * k))[j]? = some u → w.cell? ((⟨b, 0, none⟩ : Addr).add j) = some u := fun j u hj => by
        have hjl : j < ys.length * k := by
          rcases Nat.lt_or_ge j (ys.length * k) with h | h
          · exact h
          · rw [List.getElem?_take_eq_none h] at hj; cases hj
        rw [List.getElem?_take_of_lt hjl] at hj
        rw [add_mk]
        simp only [World.cell?, ho, Nat.zero_add]
        simpa using hj
      have hfit : Builtin.nextslicecap (ys.length + zs.length) g.c * inf.bytes ≤ 281474976710656 := by
        have h1 := nextslicecap_le hg
        have h2 := Nat.mul_le_mul (Nat.le_trans h1 (show 2 * (ys.length + zs.length) ≤ 8589934592 by omega)) hb
        omega
      have hr := run_append_grow (P := P) w T ty e inf z hu hi hzz ⟨b, 0, none⟩ ys.length g.c (us.take (ys.length * k)) (by rw [List.length_take, hsz]; omega) hcell ⟨b1, off, none⟩ zs.length cap vs hnl hnews hg (by omega) hfit
      have hf := hfresh _ holds (grownCap w (ys.length + zs.length) g.c e) (grownCap_ge _ _ _ _) (grownCap_le_maxLen _ _ _ _ hml)
      have hr2 : (execOp a.eval (⟨some d, .call ⟨.builtin .append, #[x, y], #[T, T]⟩, ty, pos, after, none⟩ : Oper)).run P w = .ok (.value (.slice (some ⟨w.heap.size, 0, none⟩) (ys.length + zs.length) (grownCap w (ys.length + zs.length) g.c e))) { w with heap := w.heap.push (.cells (us.take (ys.length * k) ++ vs ++ (Builtin.zeroCells z.cells (grownCap w (ys.length + zs.length) g.c e - (ys.length + zs.length))).toList).toArray e), drawn := w.drawn + 1 } := by
        have earr : (us.take (ys.length * k)).toArray ++ vs.toArray ++ Builtin.zeroCells z.cells (grownCap w (ys.length + zs.length) g.c e - (ys.length + zs.length)) = (us.take (ys.length * k) ++ vs ++ (Builtin.zeroCells z.cells (grownCap w (ys.length + zs.length) g.c e - (ys.length + zs.length))).toList).toArray := by apply Array.ext'; simp
        simp only [execOp, resolve, invoke, builtin, Sem.run_bind]
        rw [← earr]
        simp [e1, e2, Sem.run_bind, hr]
        first | rfl | exact ⟨rfl, rfl⟩ | done
      rw [hr2]
      exact hf
    · have hvone : ∀ v ∈ vs, v.oneCell' = true := hv.one (fun S hS => by obtain ⟨u, _, hu⟩ := List.mem_flatMap.1 hS; exact (h1 u).ones S hu)
      have hsum : ys.length * k + vs.length ≤ us.length := by
        rw [hlen, husl, ← Nat.add_mul]; exact Nat.mul_le_mul_right k (by omega)
      have hst := run_storeCells_at P b (ys.length * k) T' vs 0 us.toArray w ho (by simp; omega) hvone
      simp only [Nat.add_zero] at hst
      have hfc := run_firstCells_some (P := P) w k zs.length ⟨b1, off, none⟩ zs.length cap vs (by rw [hlen]) hnews
      have hr : (Builtin.append_ #[T, T] ty #[.slice (some ⟨b, 0, none⟩) ys.length g.c, .slice (some ⟨b1, off, none⟩) zs.length cap]).run P w = .ok (.slice (some ⟨b, 0, none⟩) (ys.length + zs.length) g.c) (w.setRow b (us.take (ys.length * k) ++ vs ++ us.drop (ys.length * k + vs.length)).toArray) := by
        have hst' : (storeCells ⟨b, ys.length * k, none⟩ vs).run P w = .ok () (w.setRow b (us.take (ys.length * k) ++ vs ++ us.drop (ys.length * k + vs.length)).toArray) := by simpa using hst
        simp [Builtin.append_, run_underlying hu, sizeOf, typeInfo, hi, hsz, Builtin.lenOf, hg, hfc, Addr.add_lit, hst']
      have hr2 : (execOp a.eval (⟨some d, .call ⟨.builtin .append, #[x, y], #[T, T]⟩, ty, pos, after, none⟩ : Oper)).run P w = .ok (.value (.slice (some ⟨b, 0, none⟩) (ys.length + zs.length) g.c)) (w.setRow b (us.take (ys.length * k) ++ vs ++ us.drop (ys.length * k + vs.length)).toArray) := by
        simp only [execOp, resolve, invoke, builtin, Sem.run_bind]
        simp [e1, e2, Sem.run_bind, hr]
      rw [hr2]
      have hF : ∀ k', F k' → (w.setRow b (us.take (ys.length * k) ++ vs ++ us.drop (ys.length * k + vs.length)).toArray).heap[k']? = w.heap[k']? := fun k' hk' => setRow_ne _ _ _ _ (fun e => by
        subst e; exact (s.mem.each k' _ (List.mem_of_getElem? hM')).2.2.1 hk')
      have hnew : All2 ((ys ++ zs ++ g.sp.drop zs.length).flatMap fk) w F (us.take (ys.length * k) ++ vs ++ us.drop (ys.length * k + vs.length)) := by
        have e1 := hus.take (ys.length * k)
        rw [flat_take hk, List.take_left' rfl] at e1
        have e2 := hus.drop (ys.length * k + vs.length)
        rw [hlen, ← Nat.add_mul, flat_skip hk, List.drop_append, List.drop_of_length_le (by omega), List.nil_append, Nat.add_sub_cancel_left] at e2
        rw [List.flatMap_append, List.flatMap_append, hlen, ← Nat.add_mul]
        exact (e1.append hv).append e2
      refine hK _ _ (kk ⟨some b, g.c, g.sp.drop zs.length⟩ _ _ F ?_)
      exact (s.write (w' := w.setRow b (us.take (ys.length * k) ++ vs ++ us.drop (ys.length * k + vs.length)).toArray) (C' := cellM ((ys ++ zs ++ g.sp.drop zs.length).flatMap fk)) hM' rfl rfl rfl (setRow_size _ _ _) (fun k hk => setRow_ne _ _ _ _ hk) (setRow_heap _ _ _ _ _ _ ho) ⟨_, T', rfl, All2.mono hF (fun _ h => h) _ _ hnew⟩).put hd' (.inr ⟨b, rfl, rfl, by simp; omega, hcm0⟩)
theorem nilK {w : World} {F : Blk} : (SlK k fk ([] : List α)).h w F (.slice none 0 0) := ⟨none, 0, rfl, Nat.le_refl _, by rw [maxLen_eq]; omega, by simp, .inl rfl⟩
/-- a slice that has grown, handed on -/
theorem Cv.freezeGK {t i : Nat} {g : Gr α} {ys : List α} (hk : ∀ y, (fk y).length = k) (hW : E.W = []) (ht : look Γ t = some (isGr g ys.length)) (hM : M[i]? = some (grMK fk g ys)) : Cv E Γ M ((t, SlK k fk ys) :: Γ) (M.eraseIdx i) := by
  intro a w F s
  rcases id (s.slots t _ ht) with ⟨hob, hyl, e1⟩ | ⟨b, hob, e1, hcap, hcm0⟩
  · refine ⟨F, { s with slots := ?_, mem := ⟨s.mem.apart.sublist (List.eraseIdx_sublist _ _), fun k C hk => s.mem.each k C ((List.eraseIdx_sublist _ _).subset hk)⟩ }⟩
    intro t' S' ht'
    simp only [look] at ht'
    cases hb : Nat.beq t t' with
    | false => rw [hb] at ht'; exact s.slots t' S' ht'
    | true =>
      rw [hb] at ht'
      obtain rfl : SlK k fk ys = S' := by simpa using ht'
      obtain rfl := Nat.eq_of_beq_eq_true hb
      rw [e1, List.eq_nil_of_length_eq_zero hyl]
      exact nilK
  · have hM' : M[i]? = some (some b, cellM ((ys ++ g.sp).flatMap fk)) := by rw [hM]; unfold grMK; rw [hob]
    have s2 : Sat E ((t, isWin b 0 ys.length g.c) :: Γ) M a w F := s.wider (fun t' S' ht' => by
      simp only [look] at ht'
      cases hb : Nat.beq t t' with
      | false => rw [hb] at ht'; exact s.slots t' S' ht'
      | true =>
        rw [hb] at ht'
        obtain rfl : isWin b 0 ys.length g.c = S' := by simpa using ht'
        obtain rfl := Nat.eq_of_beq_eq_true hb
        exact ⟨e1, by omega, hcm0⟩)
    obtain ⟨F', s3⟩ := Cv.freezeK (Γ := (t, isWin b 0 ys.length g.c) :: Γ) (t := t) (b := b) (n := ys.length) (c := g.c) hk hW (by simp [look, nbeq_self]) hM' (by simp) (List.take_left' rfl) a w F s2
    refine ⟨F', s3.wider fun t' S' ht' => ?_⟩
    simp only [look] at ht'
    refine s3.slots t' S' ?_
    simp only [look]
    cases hb : Nat.beq t t' with
    | false => rw [hb] at ht'; simpa using ht'
    | true => rw [hb] at ht'; simpa using ht'
theorem grMK_eq {g : Gr α} {ys ys' : List α} {r : Mem} (h : ys = ys') : (grMK fk g ys :: r : Mem) = grMK fk g ys' :: r := h ▸ rfl
theorem SlK_eq {xs xs' : List α} (h : xs = xs') : SlK k fk xs = SlK k fk xs' := h ▸ rfl
end
end Go.En
namespace Go.En
open Go.RowKit
set_option linter.unusedVariables false
section
variable {E : Env} {P : Program} {Γ : Ctx} {M : Mem} {ty : TypeId} {pos : String} {after : Array Edge} {gd : Option (Nat × Bool)} {d : Option Tmp}
  {T T' : TypeId} {x y : Operand} {α : Type} {fk : α → List VP} {xs : List α} {k : Nat}
theorem Has.cWK : Has E Γ M (.const (.slice none 0 0)) (SlK k fk ([] : List α)) := fun _ _ _ _ => nilK
theorem ixo2 {n : Nat} : 0 + n * 2 = n * 2 := by omega
end
/-- whole numbers' cells -/
abbrev zc (p : Bool × List Nat) : List VP := [isB p.1, isWords p.2]
theorem zc_len : ∀ p, (zc p).length = 2 := fun _ => rfl
abbrev isZs (xs : List (Bool × List Nat)) : VP := SlK 2 zc xs
end Go.En
/- Function values: made with what they capture, handed on, called. -/
namespace Go.En
open Go.RowKit
set_option linter.unusedVariables false
/-- a function value: with arguments as the family tells, it hands back what the family tells -/
def isFun {ι : Type} (P : Program) (As : ι → List VP) (R : ι → VP) : VP :=
  ⟨fun w F v => ∃ (g : FuncId) (first cap : List Value) (Bs Cs : List VP), v = .func (.func g) first.toArray cap.toArray ∧ (∀ i, Ctr P g (Bs ++ As i ++ Cs) (R i)) ∧ All2 Bs w F first ∧ All2 Cs w F cap,
   fun w w' F F' v h h1 h2 => by
    obtain ⟨g, first, cap, Bs, Cs, e, hC, hB, hc⟩ := h
    exact ⟨g, first, cap, Bs, Cs, e, hC, All2.mono h1 h2 _ _ hB, All2.mono h1 h2 _ _ hc⟩⟩
instance {ι : Type} {P : Program} {As : ι → List VP} {R : ι → VP} : One (isFun P As R) := ⟨fun w F v h => by obtain ⟨g, first, cap, Bs, Cs, e, _⟩ := h; rw [e]; rfl⟩
instance {ι : Type} {P : Program} {As : ι → List VP} {R : ι → VP} : Shape (isFun P As R) [isFun P As R] := .of_one inferInstance
instance {Ss : List VP} : One (PtrL Ss) := ⟨fun w F v h => by obtain ⟨b, off, e, _⟩ := h; rw [e]; rfl⟩
instance {Ss : List VP} : Shape (PtrL Ss) [PtrL Ss] := .of_one inferInstance
section
variable {E : Env} {P : Program} {Γ : Ctx} {M : Mem} {ty : TypeId} {pos : String} {after : Array Edge} {gd : Option (Nat × Bool)} {d : Option Tmp}
  {ops : Array Oper} {Q : Exit → Act → World → Prop} {rest : List Oper} {T T' : TypeId} {x y : Operand} {α ι : Type} {As : ι → List VP} {R : ι → VP}
theorem Has.fn {g : FuncId} (h : ∀ i, Ctr P g (As i) (R i)) : Has E Γ M (.func g) (isFun P As R) :=
  fun a w F s => ⟨g, [], [], [], [], rfl, fun i => by rw [List.nil_append, List.append_nil]; exact h i, trivial, trivial⟩
theorem OK1.makeFn {g : FuncId} {xs ys : List Operand} {Bs Cs : List VP} (h : ∀ i, Ctr P g (Bs ++ As i ++ Cs) (R i)) (hx : HasL E Γ M xs Bs) (hy : HasL E Γ M ys Cs) :
    OK1 E P Γ M ⟨d, .makeFunc (.func g) xs.toArray ys.toArray, ty, pos, after, gd⟩ (isFun P As R) :=
  .run fun a w F s => by
    refine ⟨.func (.func g) (xs.map a.eval).toArray (ys.map a.eval).toArray, ?_, g, _, _, Bs, Cs, rfl, h, hx.all s, hy.all s⟩
    simp [execOp, Instr.makeFunc, go_sem]
theorem OK1.callV {xs : List Operand} {ts : Array TypeId} (i : ι) (hf : Has E Γ M x (isFun P As R)) (hx : HasL E Γ M xs (As i)) :
    OK1 E P Γ M ⟨d, .call ⟨.value x, xs.toArray, ts⟩, ty, pos, after, gd⟩ (R i) := by
  intro a w F s K Q hK
  unfold Oper.wp
  obtain ⟨g, first, cap, Bs, Cs, e, hC, hB, hc⟩ := hf a w F s
  have hr : (execOp a.eval (⟨d, .call ⟨.value x, xs.toArray, ts⟩, ty, pos, after, gd⟩ : Oper)).run P w = .ok (.enter g (first ++ xs.map a.eval ++ cap).toArray) w := by
    have := run_enter (hC i).1 (first ++ xs.map a.eval ++ cap).toArray w
    simp only [execOp, resolve, Sem.run_bind, e, Deferred.ofValue, Sem.run_pure, Result.andThen_ok, invoke]
    simpa [go_sem] using this
  rw [hr]
  refine ((hC i).2 w F _ s.flt ((hB.append (hx.all s)).append hc)).mono ?_
  rintro e w' ⟨v, rfl, hk, hv⟩
  exact hK v w' _ ⟨hk, fun b hb => .inl hb, fun b hb => hb⟩ hv
/-- a variable that is not written any more: an address whose cells are known for good -/
theorem Cv.freezeBox {t b i : Nat} {Ss : List VP} (hW : E.W = []) (ht : look Γ t = some (isPtr b 0)) (hM : M[i]? = some (some b, cellM Ss)) : Cv E Γ M ((t, PtrL Ss) :: Γ) (M.eraseIdx i) := by
  intro a w F s
  obtain ⟨h1, h2, h3, ob, h4, vs, T', rfl, hv⟩ := s.mem.each b _ (List.mem_of_getElem? hM)
  refine ⟨fun k => F k ∨ k = b, ?_⟩
  have hsub : ∀ k, F k → (F k ∨ k = b) := fun k hk => .inl hk
  have hi : i < M.length := by
    rcases Nat.lt_or_ge i M.length with h | h
    · exact h
    · rw [List.getElem?_eq_none h] at hM; cases hM
  have hMi : M[i] = (some b, cellM Ss) := by rw [List.getElem?_eq_getElem hi] at hM; exact Option.some.inj hM
  have hbW : E.w0.heap.size ≤ b := h1.resolve_right (by rw [hW]; simp)
  have e1 : a.tmps.getD t undef = .pointer (some ⟨b, 0, none⟩) := s.slots t _ ht
  refine { defers := s.defers, size := s.size, keep := s.keep, f0 := fun k hk => .inl (s.f0 k hk), fnew := ?_, flt := ?_, slots := ?_, mem := ⟨s.mem.apart.sublist (List.eraseIdx_sublist _ _), ?_⟩ }
  · rintro k (hk | rfl)
    · exact s.fnew k hk
    · exact .inr ⟨hbW, h2⟩
  · rintro k (hk | rfl)
    · exact s.flt k hk
    · exact h2
  · intro t' S' ht'
    simp only [look] at ht'
    cases hb : Nat.beq t t' with
    | false => rw [hb] at ht'; exact S'.mono _ _ _ _ _ (s.slots t' S' ht') (fun _ _ => rfl) hsub
    | true =>
      rw [hb] at ht'
      obtain rfl : PtrL Ss = S' := by simpa using ht'
      obtain rfl := Nat.eq_of_beq_eq_true hb
      refine ⟨b, 0, e1, .inr rfl, vs, All2.mono (fun _ _ => rfl) hsub _ _ hv, fun j u hj => ?_⟩
      simp [World.cell?, h4, hj]
  · intro k C hk
    obtain ⟨j, hji, hj⟩ := List.mem_eraseIdx_iff_getElem?.1 hk
    obtain ⟨g1, g2, g3, o2, g4, g5⟩ := s.mem.each k C (List.mem_of_getElem? hj)
    have hkb : k ≠ b := by
      intro e; subst e
      have hjl : j < M.length := by
        rcases Nat.lt_or_ge j M.length with h | h
        · exact h
        · rw [List.getElem?_eq_none h] at hj; cases hj
      have hMj : M[j] = (some k, C) := by rw [List.getElem?_eq_getElem hjl] at hj; exact Option.some.inj hj
      rcases Nat.lt_or_gt_of_ne hji with hlt | hlt
      · have hp := List.pairwise_iff_getElem.1 s.mem.apart j i hjl hi hlt
        rw [hMi, hMj] at hp; simp at hp
      · have hp := List.pairwise_iff_getElem.1 s.mem.apart i j hi hjl hlt
        rw [hMi, hMj] at hp; simp at hp
    exact ⟨g1, g2, fun h => h.elim g3 hkb, o2, g4, C.mono _ _ _ _ _ g5 (fun _ _ => rfl) hsub⟩
end
end Go.En
/- A slice that grows in a struct's field. -/
namespace Go.En
open Go.RowKit
set_option linter.unusedVariables false
section
variable {E : Env} {P : Program} {Γ : Ctx} {M : Mem} {ty : TypeId} {pos : String} {after : Array Edge} {gd : Option (Nat × Bool)} {d : Option Tmp}
  {ops : Array Oper} {Q : Exit → Act → World → Prop} {rest : List Oper} {T T' : TypeId} {x y : Operand} {α : Type} {f : α → VP} {fk : α → List VP} {xs : List α} {k : Nat}
theorem Sat.freezeB {a : Act} {w : World} {F : Blk} {i b : Nat} {Ss : List VP} (s : Sat E Γ M a w F) (hW : E.W = []) (hM : M[i]? = some (some b, cellM Ss)) :
    Sat E Γ (M.eraseIdx i) a w (fun k => F k ∨ k = b) ∧ ∃ vs T', w.heap[b]? = some (.cells (List.toArray vs) T' (0, 0)) ∧ All2 Ss w (fun k => F k ∨ k = b) vs := by
  obtain ⟨h1, h2, h3, ob, h4, vs, T', rfl, hv⟩ := s.mem.each b _ (List.mem_of_getElem? hM)
  have hsub : ∀ k, F k → (F k ∨ k = b) := fun k hk => .inl hk
  have hi : i < M.length := by
    rcases Nat.lt_or_ge i M.length with h | h
    · exact h
    · rw [List.getElem?_eq_none h] at hM; cases hM
  have hMi : M[i] = (some b, cellM Ss) := by rw [List.getElem?_eq_getElem hi] at hM; exact Option.some.inj hM
  have hbW : E.w0.heap.size ≤ b := h1.resolve_right (by rw [hW]; simp)
  refine ⟨?_, vs, T', h4, All2.mono (fun _ _ => rfl) hsub _ _ hv⟩
  refine { defers := s.defers, size := s.size, keep := s.keep, f0 := fun k hk => .inl (s.f0 k hk), fnew := ?_, flt := ?_, slots := fun t S ht => S.mono _ _ _ _ _ (s.slots t S ht) (fun _ _ => rfl) hsub, mem := ⟨s.mem.apart.sublist (List.eraseIdx_sublist _ _), ?_⟩ }
  · rintro k (hk | rfl)
    · exact s.fnew k hk
    · exact .inr ⟨hbW, h2⟩
  · rintro k (hk | rfl)
    · exact s.flt k hk
    · exact h2
  · intro k C hk
    obtain ⟨j, hji, hj⟩ := List.mem_eraseIdx_iff_getElem?.1 hk
    obtain ⟨g1, g2, g3, o2, g4, g5⟩ := s.mem.each k C (List.mem_of_getElem? hj)
    have hkb : k ≠ b := by
      intro e; subst e
      have hjl : j < M.length := by
        rcases Nat.lt_or_ge j M.length with h | h
        · exact h
        · rw [List.getElem?_eq_none h] at hj; cases hj
      have hMj : M[j] = (some k, C) := by rw [List.getElem?_eq_getElem hjl] at hj; exact Option.some.inj hj
      rcases Nat.lt_or_gt_of_ne hji with hlt | hlt
      · have hp := List.pairwise_iff_getElem.1 s.mem.apart j i hjl hi hlt
        rw [hMi, hMj] at hp; simp at hp
      · have hp := List.pairwise_iff_getElem.1 s.mem.apart i j hi hjl hlt
        rw [hMi, hMj] at hp; simp at hp
    exact ⟨g1, g2, fun h => h.elim g3 hkb, o2, g4, C.mono _ _ _ _ _ g5 (fun _ _ => rfl) hsub⟩
theorem Sat.drop1 {a : Act} {w : World} {F : Blk} {i : Nat} (s : Sat E Γ M a w F) : Sat E Γ (M.eraseIdx i) a w F :=
  { s with mem := ⟨s.mem.apart.sublist (List.eraseIdx_sublist _ _), fun k C hk => s.mem.each k C ((List.eraseIdx_sublist _ _).subset hk)⟩ }
/-- the block of a slice that has grown, handed on -/
theorem Sat.freezeGr {a : Act} {w : World} {F : Blk} {i n : Nat} {g : Gr α} {Ts Us : List VP} (s : Sat E Γ M a w F) (hW : E.W = []) (hM : M[i]? = some (g.ob, cellM Ts)) (hl : n * k ≤ Ts.length) (he : Ts.take (n * k) = Us) :
    ∃ F', (∀ b, F b → F' b) ∧ Sat E Γ (M.eraseIdx i) a w F' ∧ ∀ v, (isGr g n).h w F v → (SlL k n Us).h w F' v := by
  cases hob : g.ob with
  | none =>
    refine ⟨F, fun _ h => h, s.drop1, ?_⟩
    rintro v (⟨_, rfl, rfl⟩ | ⟨b, hb, _⟩)
    · subst he; exact ⟨none, 0, rfl, Nat.le_refl _, by rw [maxLen_eq]; omega, by simp, .inl rfl⟩
    · rw [hob] at hb; cases hb
  | some b =>
    rw [hob] at hM
    obtain ⟨s', vs, T', hb, hv⟩ := s.freezeB hW hM
    refine ⟨_, fun _ h => .inl h, s', ?_⟩
    rintro v (⟨h0, _⟩ | ⟨b', hb', rfl, h1, h2⟩)
    · rw [hob] at h0; cases h0
    · obtain rfl : b = b' := by rw [hob] at hb'; exact Option.some.inj hb'
      have hvl := hv.len
      refine ⟨_, _, rfl, by omega, h2, by rw [← he, List.length_take]; omega, .inr ⟨b, 0, rfl, .inr rfl, vs.take (n * k), by rw [← he]; exact hv.take _, fun j u hj => ?_⟩⟩
      have hjn : j < n * k := by
        rcases Nat.lt_or_ge j (n * k) with h | h
        · exact h
        · rw [List.getElem?_take_eq_none h] at hj; cases hj
      rw [List.getElem?_take_of_lt hjn] at hj
      simp [World.cell?, hb, hj]
theorem Sat.memSet {a : Act} {w : World} {F : Blk} {i b : Nat} {C C' : MP} (s : Sat E Γ M a w F) (hM : M[i]? = some (some b, C)) (h : ∀ o, C.h w F o → C'.h w F o) : Sat E Γ (M.set i (some b, C')) a w F := by
  obtain ⟨h1, h2, h3, o, ho, hC⟩ := s.mem.each b C (List.mem_of_getElem? hM)
  exact s.write hM rfl rfl rfl rfl (fun _ _ => rfl) ho (h o hC)
theorem All2.setAt : ∀ {Ss : List VP} {w : World} {F : Blk} {vs : List Value} (o : Nat) {S S' : VP}, All2 Ss w F vs → Ss[o]? = some S → (∀ v, S.h w F v → S'.h w F v) → All2 (Ss.set o S') w F vs
  | [], _, _, _, o, _, _, _, h, _ => by simp at h
  | S0 :: Ss, _, _, v :: vs, 0, S, S', h, e, k => by
    obtain rfl : S0 = S := by simpa using e
    exact ⟨k v h.1, h.2⟩
  | S0 :: Ss, _, _, v :: vs, o + 1, S, S', h, e, k => ⟨h.1, All2.setAt o h.2 (by simpa using e) k⟩
  | _ :: _, _, _, [], _, _, _, h, _, _ => h.elim
/-- a field that is still nil is to grow -/
theorem Cv.growF {i b o : Nat} {Ss Ts : List VP} (α : Type) (hM : M[i]? = some (some b, cellM Ss)) (ho : Ss[o]? = some nilS) (hT : Ss.set o (isGr (Gr.nil : Gr α) 0) = Ts) : Cv E Γ M Γ ((none, cellM []) :: M.set i (some b, cellM Ts)) := fun a w F s => by
  have s1 : Sat E Γ (M.set i (some b, cellM Ts)) a w F := s.memSet hM fun ob ⟨vs, ty, e, h⟩ => ⟨vs, ty, e, by
    rw [← hT]
    exact h.setAt o ho (fun v hv => by rw [show v = .slice none 0 0 from hv]; exact gr0)⟩
  exact ⟨F, { s1 with mem := ⟨List.Pairwise.cons (fun x hx => .inl rfl) s1.mem.apart, fun b C hb => by
    rcases List.mem_cons.1 hb with e | hb
    · cases e
    · exact s1.mem.each b C hb⟩ }⟩
/-- a slice that has grown in a field, handed on -/
theorem Cv.freezeF {i j b o n : Nat} {g : Gr α} {Ss Ss' Ts Us : List VP} (hW : E.W = []) (hM : M[i]? = some (g.ob, cellM Ts)) (hM2 : (M.eraseIdx i)[j]? = some (some b, cellM Ss)) (ho : Ss[o]? = some (isGr g n)) (hl : n * k ≤ Ts.length) (he : Ts.take (n * k) = Us)
    (hT : Ss.set o (SlL k n Us) = Ss') : Cv E Γ M Γ ((M.eraseIdx i).set j (some b, cellM Ss')) := fun a w F s => by
  obtain ⟨F', hsub, s', hv⟩ := s.freezeGr hW hM hl he
  refine ⟨F', ?_⟩
  -- the field's cell as it was known before
  obtain ⟨_, _, _, ob, hob, vs, ty, e, hvs⟩ := s.drop1 (i := i) |>.mem.each b _ (List.mem_of_getElem? hM2)
  obtain ⟨_, _, _, ob2, hob2, vs2, ty2, e2, hvs2⟩ := s'.mem.each b _ (List.mem_of_getElem? hM2)
  have hsame : ∀ o', w.heap[b]? = some o' → o' = ob := fun o' h => by rw [hob] at h; exact (Option.some.inj h).symm
  refine s'.write hM2 rfl rfl rfl rfl (fun _ _ => rfl) hob ⟨vs, ty, e, ?_⟩
  rw [← hT]
  obtain ⟨v, hv1, hv2⟩ := hvs.get o _ ho
  have h3 : All2 Ss w F' vs := All2.mono (fun _ _ => rfl) hsub _ _ hvs
  -- place by place
  have key : ∀ {Ss : List VP} {vs : List Value} (o : Nat), All2 Ss w F' vs → vs[o]? = some v → All2 (Ss.set o (SlL k n Us)) w F' vs := by
    intro Ss
    induction Ss with
    | nil => intro vs o h _; simpa using h
    | cons S0 Ss ih =>
      intro vs o h e
      cases vs with
      | nil => exact h.elim
      | cons u us =>
        cases o with
        | zero =>
          obtain rfl : u = v := by simpa using e
          exact ⟨hv u hv2, h.2⟩
        | succ o => exact ⟨h.1, ih o h.2 (by simpa using e)⟩
  exact key o h3 hv1
theorem gr_takeM {g : Gr α} {ys : List α} : (((ys ++ g.sp).map f).take (ys.length * 1)) = ys.map f := by rw [Nat.mul_one, List.map_append, List.take_left' (by simp)]
theorem gr_lenM {g : Gr α} {ys : List α} : ys.length * 1 ≤ ((ys ++ g.sp).map f).length := by simp
theorem gr_takeK {g : Gr α} {ys : List α} (hk : ∀ y, (fk y).length = k) : (((ys ++ g.sp).flatMap fk).take (ys.length * k)) = ys.flatMap fk := by rw [flat_take hk, List.take_left' rfl]
theorem gr_lenK {g : Gr α} {ys : List α} (hk : ∀ y, (fk y).length = k) : ys.length * k ≤ ((ys ++ g.sp).flatMap fk).length := by rw [flat_len hk, List.length_append]; exact Nat.mul_le_mul_right k (by omega)
end
end Go.En
/- Elements appended to a slice that grows, that may be none. -/
namespace Go.En
open Go.RowKit
set_option linter.unusedVariables false
section
variable {E : Env} {P : Program} {Γ : Ctx} {M : Mem} {ty : TypeId} {pos : String} {after : Array Edge} {gd : Option (Nat × Bool)} {d : Option Tmp}
  {ops : Array Oper} {Q : Exit → Act → World → Prop} {rest : List Oper} {T T' : TypeId} {x y : Operand} {α : Type} {f : α → VP} {fk : α → List VP} {xs : List α} {k : Nat}
theorem append_none {w : World} {e : TypeId} {inf : TypeInfo} {base b2 : Option Addr} {n c c2 : Nat} (hu : P.underlying T = some (.slice e)) (hi : P.info? e = some inf) (hn : n ≤ c) :
    (Builtin.append_ #[T, T] ty #[.slice base n c, .slice b2 0 c2]).run P w = .ok (.slice base n c) w := by
  cases base <;> cases b2 <;> simp [Builtin.append_, run_underlying hu, sizeOf, typeInfo, hi, Builtin.lenOf, Builtin.firstCells, loadCells, loadCellsFrom, storeCells, hn]
/-- elements appended to a slice that grows, or none -/
theorem Ops.appendGK0 {d i : Nat} {e : TypeId} {g0 : Bool} {z : Value} {u : α} {g : Gr α} {ys zs : List α} (hk : ∀ y, (fk y).length = k) (hk0 : 0 < k) (h1 : ∀ u, Ones (fk u)) (hT : slB P T = some e) (ht : tyB P e = some (k, g0)) (hz : zeroB P e = some z) (hZ : ∀ w F, All2 (fk u) w F z.cells.toList) (hby : byLe P e 1024 = true)
    (hx : Has E Γ M x (isGr g ys.length)) (hM : M[i]? = some (grMK fk g ys)) (hy : Has E Γ M y (SlK k fk zs)) (hn' : ys.length + zs.length ≤ 4294967296) (hd : Nat.blt d E.n = true)
    (kk : ∀ g' : Gr α, Ops E P ops Q rest ((d, isGr g' (ys.length + zs.length)) :: Γ) (M.set i (grMK fk g' (ys ++ zs)))) :
    Ops E P ops Q (⟨some d, .call ⟨.builtin .append, #[x, y], #[T, T]⟩, ty, pos, after, none⟩ :: rest) Γ M := by
  rcases Nat.eq_zero_or_pos zs.length with h0 | h0
  · obtain rfl : zs = [] := List.eq_nil_of_length_eq_zero h0
    intro a w F s
    refine wpList_plain rfl fun K hK => ?_
    have hd' : d < E.n := by simpa [Nat.blt_eq] using hd
    obtain ⟨a1, cap, e2, g1, g2, g3, g4⟩ := hy a w F s
    have hu := slB_under hT
    obtain ⟨inf, hi⟩ : ∃ i, P.info? e = some i := by
      unfold byLe at hby
      cases hi : P.info? e with
      | none => simp [hi] at hby
      | some i => exact ⟨i, rfl⟩
    have hset : M.set i (grMK fk g (ys ++ [])) = M := set_self (by rw [hM, List.append_nil])
    have kk1 := kk g
    rw [hset] at kk1
    have hval := hx a w F s
    obtain ⟨base, c, e1, hnc⟩ : ∃ base c, a.eval x = .slice base ys.length c ∧ ys.length ≤ c := by
      rcases hval with ⟨_, hyl, e1⟩ | ⟨b, _, e1, h, _⟩
      · exact ⟨none, 0, by rw [e1, hyl], by omega⟩
      · exact ⟨_, _, e1, by omega⟩
    have hr := append_none (P := P) (T := T) (ty := ty) (w := w) (base := base) (b2 := a1) (n := ys.length) (c := c) (c2 := cap) hu hi hnc
    unfold Oper.wp
    have hr2 : (execOp a.eval (⟨some d, .call ⟨.builtin .append, #[x, y], #[T, T]⟩, ty, pos, after, none⟩ : Oper)).run P w = .ok (.value (.slice base ys.length c)) w := by
      simp only [execOp, resolve, invoke, builtin, Sem.run_bind]
      simp [e1, e2, Sem.run_bind, hr]
    rw [hr2]
    refine hK _ _ (kk1 _ _ F (s.put hd' ?_))
    rw [← e1]; exact hval
  · exact Ops.appendGK hk hk0 h1 hT ht hz hZ hby hx hM hy hn' h0 hd kk
theorem Cv.winGrM {t b n c i : Nat} {ys : List α} (ht : look Γ t = some (isWin b 0 n c)) (hM : M[i]? = some (some b, cellM (xs.map f))) (hn : n ≤ xs.length) (hc : xs.length = c) (hy : xs.take n = ys) :
    Cv E Γ M ((t, isGr (⟨some b, c, xs.drop n⟩ : Gr α) ys.length) :: Γ) (M.set i (grM f ⟨some b, c, xs.drop n⟩ ys)) := fun a w F s => by
  subst hy
  have e : (xs.take n).length = n := by rw [List.length_take]; omega
  rw [e]
  have hset : M.set i (grM f ⟨some b, c, xs.drop n⟩ (xs.take n)) = M := by
    refine set_self ?_
    rw [hM]; unfold grM; simp only [List.take_append_drop]
  rw [hset]
  refine ⟨F, s.wider fun t' S' ht' => ?_⟩
  simp only [look] at ht'
  cases hb : Nat.beq t t' with
  | false => rw [hb] at ht'; exact s.slots t' S' ht'
  | true =>
    rw [hb] at ht'
    obtain rfl : isGr (⟨some b, c, xs.drop n⟩ : Gr α) n = S' := by simpa using ht'
    obtain rfl := Nat.eq_of_beq_eq_true hb
    obtain ⟨e1, e2, e3⟩ := s.slots _ _ ht
    exact .inr ⟨b, rfl, e1, by show n + (xs.drop n).length = c; rw [List.length_drop]; omega, e3⟩
theorem Cv.freezeGn {t i n : Nat} {g : Gr α} {ys : List α} (hW : E.W = []) (ht : look Γ t = some (isGr g n)) (hM : M[i]? = some (grM f g ys)) (hn : n = ys.length) : Cv E Γ M ((t, SlM f ys) :: Γ) (M.eraseIdx i) := by
  subst hn; exact Cv.freezeG hW ht hM
end
end Go.En
/- Whole numbers as a sign and words. No program here. -/
namespace Go.Nt
/-- the number of a sign and words -/
def zv (n : Bool) (xs : List Nat) : Int := if n = true then -(val xs : Int) else (val xs : Int)
theorem zv_nf (z : Int) : zv (decide (z < 0)) (words z.natAbs) = z := by
  unfold zv
  rw [val_words]
  by_cases h : z < 0
  · rw [decide_eq_true h, if_pos rfl]; omega
  · rw [decide_eq_false h, if_neg (by decide)]; omega
theorem zv_abs (n : Bool) (xs : List Nat) : (zv n xs).natAbs = val xs := by unfold zv; split <;> omega
theorem zv_neg (n : Bool) (xs : List Nat) : decide (zv n xs < 0) = (n && decide (val xs ≠ 0)) := by
  unfold zv
  cases n
  · rw [if_neg (by decide), Bool.false_and]; exact decide_eq_false (by omega)
  · rw [if_pos rfl, Bool.true_and]; exact decide_eq_decide.2 (by omega)
theorem zv_nw (n : Bool) (xs : List Nat) : (List.length (words (zv n xs).natAbs)) = (List.length (words (val xs))) := by rw [zv_abs]
theorem zv_false (xs : List Nat) : zv false xs = (val xs : Int) := by unfold zv; rw [if_neg (by decide)]
theorem zv_not (n : Bool) (xs : List Nat) : zv (!n) xs = - zv n xs := by
  unfold zv; cases n <;> simp
/-- the sign -/
def sgn (z : Int) : Int := if z = 0 then 0 else if z < 0 then -1 else 1
def cmpZ (x y : Int) : Int := if x < y then -1 else if y < x then 1 else 0
theorem zv_add_same {m n : Bool} (h : m = n) (xs ys : List Nat) : zv m xs + zv n ys = zv m (words (val xs + val ys)) := by
  subst h; unfold zv; rw [val_words]; cases m <;> simp <;> omega
theorem zv_add_sub {m n : Bool} (h : m ≠ n) {xs ys : List Nat} (hle : val ys ≤ val xs) : zv m xs + zv n ys = zv m (words (val xs - val ys)) := by
  unfold zv; rw [val_words]; cases m <;> cases n <;> simp at h ⊢ <;> omega
theorem zv_mul (m n : Bool) (xs ys : List Nat) : zv m xs * zv n ys = zv (!(m == n)) (words (val xs * val ys)) := by
  unfold zv; rw [val_words]; cases m <;> cases n <;> simp [Int.neg_mul, Int.mul_neg]
theorem zv_tdiv (m n : Bool) (xs ys : List Nat) : (zv m xs).tdiv (zv n ys) = zv (!(m == n)) (words (val xs / val ys)) := by
  have h : ((val xs : Int)).tdiv (val ys : Int) = ((val xs / val ys : Nat) : Int) := Int.ofNat_tdiv _ _ ▸ rfl
  unfold zv; rw [val_words]; cases m <;> cases n <;> simp [Int.neg_tdiv, Int.tdiv_neg, h]
theorem zv_tmod (m n : Bool) (xs ys : List Nat) : (zv m xs).tmod (zv n ys) = zv m (words (val xs % val ys)) := by
  have h : ((val xs : Int)).tmod (val ys : Int) = ((val xs % val ys : Nat) : Int) := Int.ofNat_tmod _ _ ▸ rfl
  unfold zv; rw [val_words]; cases m <;> cases n <;> simp [Int.neg_tmod, Int.tmod_neg, h]
end Go.Nt
/- Whole numbers: sizes, rests, the greatest common divisor with what makes it. No program here. -/
namespace Go.Nt
theorem nw_add_le (a b : Nat) : (List.length (words (a + b))) ≤ max ((List.length (words a))) ((List.length (words b))) + 1 := nw_le (add_lt (lt_pow_of (Nat.le_max_left _ _)) (lt_pow_of (Nat.le_max_right _ _)))
theorem nw_mul_le (a b : Nat) : (List.length (words (a * b))) ≤ (List.length (words a)) + (List.length (words b)) := nw_le (by rw [Nat.pow_add]; exact Nat.mul_lt_mul_of_lt_of_lt (nw_lt a) (nw_lt b))
theorem nz_add (x y : Int) : (List.length (words (x + y).natAbs)) ≤ max ((List.length (words x.natAbs))) ((List.length (words y.natAbs))) + 1 := Nat.le_trans (nw_mono (Int.natAbs_add_le x y)) (nw_add_le _ _)
theorem nz_sub (x y : Int) : (List.length (words (x - y).natAbs)) ≤ max ((List.length (words x.natAbs))) ((List.length (words y.natAbs))) + 1 := by
  have := nz_add x (-y); rwa [Int.natAbs_neg, ← Int.sub_eq_add_neg] at this
theorem nz_mul (x y : Int) : (List.length (words (x * y).natAbs)) ≤ (List.length (words x.natAbs)) + (List.length (words y.natAbs)) := by rw [Int.natAbs_mul]; exact nw_mul_le _ _
theorem nz_tdiv (x y : Int) : (List.length (words (x.tdiv y).natAbs)) ≤ (List.length (words x.natAbs)) := by rw [Int.natAbs_tdiv]; exact nw_mono (Nat.div_le_self _ _)
theorem nz_tmod (x y : Int) : (List.length (words (x.tmod y).natAbs)) ≤ (List.length (words x.natAbs)) := by rw [Int.natAbs_tmod]; exact nw_mono (Nat.mod_le _ _)
theorem nw_one : (List.length (words 1)) = 1 := by rw [words_small (by decide)]; rfl
theorem nw_small' {n : Nat} (h : n < 18446744073709551616) : (List.length (words n)) ≤ 1 := nw_le (by simpa using h)
/-! ### rests from 0 on -/
theorem tmod_cases (a b : Int) : (0 ≤ a.tmod b → a.tdiv b = a / b ∧ a.tmod b = a % b) ∧
    (a.tmod b < 0 → (0 < b → a.tdiv b - 1 = a / b ∧ a.tmod b + b = a % b) ∧ (b < 0 → a.tdiv b + 1 = a / b ∧ a.tmod b - b = a % b)) := by
  rcases Int.lt_trichotomy b 0 with hb | hb | hb
  · have h1 := Int.emod_nonneg a (show b ≠ 0 by omega)
    have h3 := Int.emod_lt_of_pos a (show 0 < -b by omega)
    rw [Int.emod_neg] at h3
    have h4 := Int.tmod_eq_emod (a := a) (b := b)
    have h5 := Int.tdiv_eq_ediv (a := a) (b := b)
    have h6 := Int.sign_eq_neg_one_of_neg hb
    split at h4
    · rename_i h; rw [if_pos h] at h5; refine ⟨fun _ => ⟨by omega, by omega⟩, fun h7 => ⟨fun h8 => by omega, fun _ => by omega⟩⟩
    · rename_i h; rw [if_neg h, h6] at h5
      refine ⟨fun h7 => ?_, fun h7 => ⟨fun h8 => by omega, fun _ => by omega⟩⟩
      omega
  · subst hb; simp
  · have h1 := Int.emod_nonneg a (show b ≠ 0 by omega)
    have h3 := Int.emod_lt_of_pos a hb
    have h4 := Int.tmod_eq_emod (a := a) (b := b)
    have h5 := Int.tdiv_eq_ediv (a := a) (b := b)
    have h6 := Int.sign_eq_one_of_pos hb
    split at h4
    · rename_i h; rw [if_pos h] at h5; refine ⟨fun _ => ⟨by omega, by omega⟩, fun h7 => ⟨fun h8 => by omega, fun _ => by omega⟩⟩
    · rename_i h; rw [if_neg h, h6] at h5
      refine ⟨fun h7 => ?_, fun h7 => ⟨fun h8 => by omega, fun _ => by omega⟩⟩
      omega
/-! ### the greatest common divisor -/
def cof (a b x next : Int) : Int × Int := if h : b = 0 then (if a < 0 then (-a, -x) else (a, x)) else cof b (a.tmod b) next (x - a.tdiv b * next)
termination_by b.natAbs
decreasing_by
  rw [Int.natAbs_tmod]; exact Nat.mod_lt _ (by omega)
theorem cof_zero (a x next : Int) : cof a 0 x next = if a < 0 then (-a, -x) else (a, x) := by rw [cof, dif_pos rfl]
theorem cof_step {b : Int} (h : b ≠ 0) (a x next : Int) : cof a b x next = cof b (a.tmod b) next (x - a.tdiv b * next) := by rw [cof, dif_neg h]
/-- what stays true on the way, of two numbers that it began with -/
structure Cf (A B a b x next : Int) (X Y : Nat) : Prop where
  g : Nat.gcd a.natAbs b.natAbs = Nat.gcd A.natAbs B.natAbs
  d1 : B ∣ a - x * A
  d2 : B ∣ b - next * A
  x : x.natAbs ≤ X
  y : next.natAbs ≤ Y
  s : Y * a.natAbs + X * b.natAbs = B.natAbs
  X1 : X ≤ max 1 B.natAbs
  Y1 : Y ≤ B.natAbs
  a1 : a.natAbs ≤ max A.natAbs B.natAbs
  b1 : b.natAbs ≤ B.natAbs
theorem Cf.start (A B : Int) : Cf A B A B 1 0 1 0 := by
  refine ⟨rfl, ?_, ?_, by decide, by decide, by omega, Nat.le_max_left _ _, Nat.zero_le _, Nat.le_max_left _ _, Nat.le_refl _⟩
  · rw [Int.one_mul, Int.sub_self]; exact Int.dvd_zero _
  · rw [Int.zero_mul, Int.sub_zero]; exact Int.dvd_refl _
theorem Cf.step {A B a b x next : Int} {X Y : Nat} (c : Cf A B a b x next X Y) (h : b ≠ 0) : Cf A B b (a.tmod b) next (x - a.tdiv b * next) Y (X + (a.tdiv b).natAbs * Y) := by
  have e1 := Int.tmod_add_mul_tdiv a b
  have e2 : a.natAbs = (a.tdiv b).natAbs * b.natAbs + (a.tmod b).natAbs := by
    rw [Int.natAbs_tdiv, Int.natAbs_tmod, Nat.mul_comm]; exact (Nat.div_add_mod _ _).symm
  have hb : 0 < b.natAbs := by omega
  have hs : (X + (a.tdiv b).natAbs * Y) * b.natAbs + Y * (a.tmod b).natAbs = B.natAbs := by
    rw [← c.s, e2, Nat.add_mul, Nat.mul_add, Nat.mul_right_comm, Nat.mul_comm Y ((a.tdiv b).natAbs * b.natAbs)]
    omega
  refine ⟨?_, c.d2, ?_, c.y, ?_, hs, Nat.le_trans c.Y1 (Nat.le_max_right _ _), ?_, Nat.le_trans c.b1 (Nat.le_max_right _ _), ?_⟩
  · rw [← c.g, Int.natAbs_tmod, Nat.gcd_comm a.natAbs, Nat.gcd_rec b.natAbs a.natAbs, Nat.gcd_comm]
  · have e3 : a.tmod b - (x - a.tdiv b * next) * A = (a - x * A) - a.tdiv b * (b - next * A) := by
      rw [Int.sub_mul, Int.mul_sub, Int.mul_assoc, Int.mul_comm (a.tdiv b) b]; omega
    rw [e3]; exact Int.dvd_sub c.d1 (Int.dvd_mul_of_dvd_right c.d2)
  · refine Nat.le_trans (Int.natAbs_sub_le _ _) ?_
    rw [Int.natAbs_mul]
    exact Nat.add_le_add c.x (Nat.mul_le_mul_left _ c.y)
  · have h1 := Nat.le_mul_of_pos_right (X + (a.tdiv b).natAbs * Y) hb
    omega
  · rw [Int.natAbs_tmod]; exact Nat.le_trans (Nat.le_of_lt (Nat.mod_lt _ hb)) c.b1
theorem Cf.fin {A B a x next : Int} {X Y : Nat} (c : Cf A B a 0 x next X Y) : (cof a 0 x next).1 = (Nat.gcd A.natAbs B.natAbs : Nat) ∧ B ∣ (cof a 0 x next).1 - (cof a 0 x next).2 * A ∧ (cof a 0 x next).2.natAbs ≤ max 1 B.natAbs := by
  have hg := c.g
  rw [Int.natAbs_zero, Nat.gcd_zero_right] at hg
  have hx := Nat.le_trans c.x c.X1
  rw [cof_zero]
  by_cases h : a < 0
  · rw [if_pos h]
    refine ⟨by show -a = _; omega, ?_, by show (-x).natAbs ≤ _; rw [Int.natAbs_neg]; exact hx⟩
    show B ∣ -a - -x * A
    have : -a - -x * A = -(a - x * A) := by rw [Int.neg_mul]; omega
    rw [this]; exact Int.dvd_neg.2 c.d1
  · rw [if_neg h]
    exact ⟨by show a = _; omega, c.d1, hx⟩
theorem cof_all (A B : Int) : (cof A B 1 0).1 = (Nat.gcd A.natAbs B.natAbs : Nat) ∧ B ∣ (cof A B 1 0).1 - (cof A B 1 0).2 * A ∧ (cof A B 1 0).2.natAbs ≤ max 1 B.natAbs := by
  have key : ∀ (n : Nat) (a b x next : Int) (X Y : Nat), b.natAbs = n → Cf A B a b x next X Y → (cof a b x next).1 = (Nat.gcd A.natAbs B.natAbs : Nat) ∧ B ∣ (cof a b x next).1 - (cof a b x next).2 * A ∧ (cof a b x next).2.natAbs ≤ max 1 B.natAbs := by
    intro n
    induction n using Nat.strongRecOn with
    | _ n ih =>
      intro a b x next X Y hn c
      by_cases h : b = 0
      · subst h; exact c.fin
      · rw [cof_step h]
        refine ih (a.tmod b).natAbs ?_ _ _ _ _ _ _ rfl (c.step h)
        rw [Int.natAbs_tmod, ← hn]; exact Nat.mod_lt _ (by omega)
  exact key _ _ _ _ _ _ _ rfl (Cf.start A B)
end Go.Nt
/- Contracts: products of any size. -/
namespace Go.Proofs.Ytcfobfedliajdaa
open Go.En Go.RowKit
set_option linter.unusedVariables false
set_option maxRecDepth 10000
open Go.Nt
/-- words put up by a number of words -/
def upW (n : Nat) (xs : List Nat) : List Nat := if xs.length = 0 then [] else List.replicate n 0 ++ xs
theorem upW_nil {n : Nat} {xs : List Nat} (h : xs.length = 0) : [] = upW n xs := by unfold upW; rw [if_pos h]
theorem upW_app {n : Nat} {xs : List Nat} (h : xs.length ≠ 0) : List.replicate n 0 ++ xs = upW n xs := by unfold upW; rw [if_neg h]
theorem upW_val (n : Nat) (xs : List Nat) : val (upW n xs) = W ^ n * val xs := by
  unfold upW
  split
  · rename_i h; rw [List.eq_nil_of_length_eq_zero h]; rfl
  · rw [val_append, val_replicate, List.length_replicate, Nat.zero_add]
theorem upW_nw {n : Nat} {xs : List Nat} (h : Ok xs) : (List.length (words (val (upW n xs)))) ≤ n + xs.length := by
  rw [upW_val]
  refine nw_le ?_
  rw [Nat.pow_add]
  exact Nat.mul_lt_mul_of_pos_left (val_lt h) (pow_pos' n)
theorem ok_take {xs : List Nat} (h : Ok xs) (n : Nat) : Ok (xs.take n) := fun x hx => h x (List.mem_of_mem_take hx)
theorem ok_drop {xs : List Nat} (h : Ok xs) (n : Nat) : Ok (xs.drop n) := fun x hx => h x (List.mem_of_mem_drop hx)
theorem lowW_nw (a n : Nat) : (List.length (words (val ((words a).take n)))) ≤ min n ((List.length (words a))) := by
  have := nw_val (ok_take (words_ok a) n)
  rwa [List.length_take] at this
theorem highW_nw (a n : Nat) : (List.length (words (val ((words a).drop n)))) ≤ (List.length (words a)) - n := by
  have := nw_val (ok_drop (words_ok a) n)
  rwa [List.length_drop] at this
theorem halves (a n : Nat) : val ((words a).take n) + W ^ n * val ((words a).drop n) = a := by
  rcases Nat.lt_or_ge n (words a).length with h | h
  · have e := val_append ((words a).take n) ((words a).drop n)
    rw [List.take_append_drop, val_words, List.length_take, Nat.min_eq_left (Nat.le_of_lt h)] at e
    exact e.symm
  · rw [List.take_of_length_le h, List.drop_eq_nil_of_le h, val_words]; exact Nat.add_zero _
theorem kara (p q r s n : Nat) : p * r + W ^ n * ((p + q) * (r + s) - p * r - q * s) + W ^ (2 * n) * (q * s) = (p + W ^ n * q) * (r + W ^ n * s) := by
  have e : (p + q) * (r + s) - p * r - q * s = p * s + q * r := by
    rw [Nat.add_mul, Nat.mul_add, Nat.mul_add]; omega
  rw [e, Nat.two_mul, Nat.pow_add]
  generalize W ^ n = w
  simp only [Nat.add_mul, Nat.mul_add, Nat.mul_assoc, Nat.mul_left_comm, Nat.mul_comm, Nat.add_assoc, Nat.add_left_comm, Nat.add_comm]
set_option maxHeartbeats 4000000 in
theorem mul_low {xs : List Nat} {n : Nat} : Ctr Try.prog 70 [isWords xs, isI (n : Int)] (isWords (xs.take n)) := by
  refine Ctr.intro Try.func70 rfl (by kernel_rfl) Try.ntmps70 rfl fun w0 F0 => ?_
  refine Tri.cv (Cv.wk (.cons (t := 0) (Has.t rfl) (.cons (t := 1) (Has.t rfl) .nil))) ?_
  refine Tri.fact (Has.lenLt (Has.t (t := 0) rfl)) fun lt0 => ?_
  refine Tri.fact (Has.okW (Has.t (t := 0) rfl)) fun ok0 => ?_
  refine Tri.fact (Has.rngI (Has.t (t := 1) rfl)) fun lt1 => ?_
  refine Tri.seq fun K1 hK1 => ?_
  refine Tri.region ?_
  refine st (OK1.as (Has.cW (f := isU))) rfl ?_
  refine nl ?_
  refine At.thn (hK1 _ _ ?_); clear hK1
  refine Tri.seq fun K2 hK2 => ?_
  refine Tri.seq fun K3 hK3 => ?_
  refine Tri.region ?_
  refine st (OK1.mv (Has.t rfl)) rfl ?_
  refine st (OK1.len sl35 (Has.t rfl)) rfl ?_
  refine st (OK1.mv (Has.t rfl)) rfl ?_
  refine st (OK1.leI (Has.t rfl) (Has.t rfl)) rfl ?_
  refine nl ?_
  refine At.thn (hK3 _ _ ?_); clear hK3
  refine Tri.cond (Has.t rfl) (fun hc1 => ?_) (fun hc1 => ?_)
  · have hc1 := BP.t hc1
    refine Tri.seq fun K4 hK4 => ?_
    refine Tri.region ?_
    refine st (OK1.mv (Has.t rfl)) rfl ?_
    refine st (OK1.as (Has.t rfl)) rfl ?_
    refine nl ?_
    refine At.thn (hK4 _ _ ?_); clear hK4
    refine Tri.cv (Cv.wk (.cons (t := 0) (Has.t rfl) (.cons (t := 1) (Has.t rfl) (.cons (t := 4) (Has.t rfl) .nil)))) ?_
    refine Tri.ret ?_
    refine At.thr ?_
    refine rt1 (.inl rfl) Try.results70 rfl (.tmp (Has.t' rfl ?_) .nil)
    all_goals (exact SlM_eq (List.take_of_length_le (by omega)).symm)
  · have hc1 := BP.f hc1
    refine Tri.skip ?_
    refine At.thn (hK2 _ _ ?_); clear hK2
    refine Tri.seq fun K5 hK5 => ?_
    refine Tri.region ?_
    refine st (OK1.mv (Has.t rfl)) rfl ?_
    refine st (OK1.mv (Has.t rfl)) rfl ?_
    refine st (OK1.slHM sl35 ty66 (Has.t rfl) (Has.t rfl) ⟨by omega, by omega⟩) rfl ?_
    refine st (OK1.as (Has.t rfl)) rfl ?_
    refine nl ?_
    refine At.thn (hK5 _ _ ?_); clear hK5
    refine Tri.cv (Cv.wk (.cons (t := 4) (Has.t rfl) .nil)) ?_
    refine Tri.ret ?_
    refine rt1 (.inl rfl) Try.results70 rfl (.tmp (Has.t' rfl ?_) .nil)
    all_goals (exact SlM_eq (by rw [Int.toNat_natCast]))
set_option maxHeartbeats 4000000 in
theorem mul_high {xs : List Nat} {n : Nat} : Ctr Try.prog 71 [isWords xs, isI (n : Int)] (isWords (xs.drop n)) := by
  refine Ctr.intro Try.func71 rfl (by kernel_rfl) Try.ntmps71 rfl fun w0 F0 => ?_
  refine Tri.cv (Cv.wk (.cons (t := 0) (Has.t rfl) (.cons (t := 1) (Has.t rfl) .nil))) ?_
  refine Tri.fact (Has.lenLt (Has.t (t := 0) rfl)) fun lt0 => ?_
  refine Tri.fact (Has.okW (Has.t (t := 0) rfl)) fun ok0 => ?_
  refine Tri.fact (Has.rngI (Has.t (t := 1) rfl)) fun lt1 => ?_
  refine Tri.seq fun K1 hK1 => ?_
  refine Tri.region ?_
  refine st (OK1.as (Has.cW (f := isU))) rfl ?_
  refine nl ?_
  refine At.thn (hK1 _ _ ?_); clear hK1
  refine Tri.seq fun K2 hK2 => ?_
  refine Tri.seq fun K3 hK3 => ?_
  refine Tri.region ?_
  refine st (OK1.mv (Has.t rfl)) rfl ?_
  refine st (OK1.len sl35 (Has.t rfl)) rfl ?_
  refine st (OK1.mv (Has.t rfl)) rfl ?_
  refine st (OK1.leI (Has.t rfl) (Has.t rfl)) rfl ?_
  refine nl ?_
  refine At.thn (hK3 _ _ ?_); clear hK3
  refine Tri.cond (Has.t rfl) (fun hc1 => ?_) (fun hc1 => ?_)
  · have hc1 := BP.t hc1
    refine Tri.seq fun K4 hK4 => ?_
    refine Tri.region ?_
    refine st (OK1.as (Has.cW (f := isU))) rfl ?_
    refine nl ?_
    refine At.thn (hK4 _ _ ?_); clear hK4
    refine Tri.ret ?_
    refine At.thr ?_
    refine rt1 (.inl rfl) Try.results71 rfl (.tmp (Has.t' rfl ?_) .nil)
    all_goals (exact SlM_eq (List.drop_eq_nil_of_le (by omega)).symm)
  · have hc1 := BP.f hc1
    refine Tri.skip ?_
    refine At.thn (hK2 _ _ ?_); clear hK2
    refine Tri.seq fun K5 hK5 => ?_
    refine Tri.region ?_
    refine st (OK1.mv (Has.t rfl)) rfl ?_
    refine st (OK1.mv (Has.t rfl)) rfl ?_
    refine st (OK1.slLM sl35 ty66 (Has.t rfl) (Has.t rfl) ⟨by omega, by omega⟩) rfl ?_
    refine st (OK1.as (Has.t rfl)) rfl ?_
    refine nl ?_
    refine At.thn (hK5 _ _ ?_); clear hK5
    refine Tri.cv (Cv.wk (.cons (t := 4) (Has.t rfl) .nil)) ?_
    refine Tri.ret ?_
    refine rt1 (.inl rfl) Try.results71 rfl (.tmp (Has.t' rfl ?_) .nil)
    all_goals (exact SlM_eq (by rw [Int.toNat_natCast]))
set_option maxHeartbeats 4000000 in
theorem mul_less {xs ys : List Nat} (hx : (List.length (words (val xs))) < 4294967296) : Ctr Try.prog 72 [isWords xs, isWords ys] (isWords (words (val xs - val ys))) := by
  refine Ctr.intro Try.func72 rfl (by kernel_rfl) Try.ntmps72 rfl fun w0 F0 => ?_
  refine Tri.cv (Cv.wk (.cons (t := 0) (Has.t rfl) (.cons (t := 1) (Has.t rfl) .nil))) ?_
  refine Tri.fact (Has.lenLt (Has.t (t := 0) rfl)) fun lt0 => ?_
  refine Tri.fact (Has.okW (Has.t (t := 0) rfl)) fun ok0 => ?_
  refine Tri.fact (Has.lenLt (Has.t (t := 1) rfl)) fun lt1 => ?_
  refine Tri.fact (Has.okW (Has.t (t := 1) rfl)) fun ok1 => ?_
  refine Tri.seq fun K1 hK1 => ?_
  refine Tri.region ?_
  refine st (OK1.as (Has.cW (f := isU))) rfl ?_
  refine nl ?_
  refine At.thn (hK1 _ _ ?_); clear hK1
  refine Tri.seq fun K2 hK2 => ?_
  refine Tri.region ?_
  refine st (OK1.mv (Has.t rfl)) rfl ?_
  refine st (OK1.mv (Has.t rfl)) rfl ?_
  refine st (OK1.call (nat_Sub (by first | with_reducible assumption | omega | (simp only [val_words]; omega))) (.cons (Has.t rfl) (.cons (Has.t rfl) .nil))) rfl ?_
  refine st (OK1.mv (Has.t rfl)) rfl ?_
  refine st (OK1.ext (Has.t rfl) rfl) rfl ?_
  refine st (OK1.ext (Has.t rfl) rfl) rfl ?_
  refine st (OK1.as (Has.t rfl)) rfl ?_
  refine st (OK1.as (Has.t rfl)) rfl ?_
  refine nl ?_
  refine At.thn (hK2 _ _ ?_); clear hK2
  refine Tri.cv (Cv.wk (.cons (t := 4) (Has.t rfl) (.cons (t := 5) (Has.t rfl) .nil))) ?_
  refine Tri.seq fun K3 hK3 => ?_
  refine Tri.region ?_
  refine st (OK1.mv (Has.t rfl)) rfl ?_
  refine st (OK1.as (Has.t rfl)) rfl ?_
  refine nl ?_
  refine At.thn (hK3 _ _ ?_); clear hK3
  refine Tri.ret ?_
  refine rt1 (.inl rfl) Try.results72 rfl (.tmp (Has.t' rfl ?_) .nil)
  all_goals (rfl)
set_option maxHeartbeats 4000000 in
theorem mul_up {xs : List Nat} {n : Nat} (hn : n + xs.length ≤ 4294967296) : Ctr Try.prog 83 [isWords xs, isI (n : Int)] (isWords (upW n xs)) := by
  refine Ctr.intro Try.func83 rfl (by kernel_rfl) Try.ntmps83 rfl fun w0 F0 => ?_
  refine Tri.cv (Cv.wk (.cons (t := 0) (Has.t rfl) (.cons (t := 1) (Has.t rfl) .nil))) ?_
  refine Tri.fact (Has.lenLt (Has.t (t := 0) rfl)) fun lt0 => ?_
  refine Tri.fact (Has.okW (Has.t (t := 0) rfl)) fun ok0 => ?_
  refine Tri.fact (Has.rngI (Has.t (t := 1) rfl)) fun lt1 => ?_
  refine Tri.seq fun K1 hK1 => ?_
  refine Tri.region ?_
  refine st (OK1.as (Has.cW (f := isU))) rfl ?_
  refine nl ?_
  refine At.thn (hK1 _ _ ?_); clear hK1
  refine Tri.seq fun K2 hK2 => ?_
  refine Tri.seq fun K3 hK3 => ?_
  refine Tri.region ?_
  refine st (OK1.mv (Has.t rfl)) rfl ?_
  refine st (OK1.len sl35 (Has.t rfl)) rfl ?_
  refine st (OK1.eqI (Has.t rfl) (Has.cI 0 rfl)) rfl ?_
  refine nl ?_
  refine At.thn (hK3 _ _ ?_); clear hK3
  refine Tri.cond (Has.t rfl) (fun hc1 => ?_) (fun hc1 => ?_)
  · have hc1 := BP.t hc1
    refine Tri.seq fun K4 hK4 => ?_
    refine Tri.region ?_
    refine st (OK1.as (Has.cW (f := isU))) rfl ?_
    refine nl ?_
    refine At.thn (hK4 _ _ ?_); clear hK4
    refine Tri.ret ?_
    refine At.thr ?_
    refine rt1 (.inl rfl) Try.results83 rfl (.tmp (Has.t' rfl ?_) .nil)
    all_goals (exact SlM_eq (upW_nil (by omega)))
  · have hc1 := BP.f hc1
    refine Tri.skip ?_
    refine At.thn (hK2 _ _ ?_); clear hK2
    refine Tri.seq fun K5 hK5 => ?_
    refine Tri.region ?_
    refine st (OK1.mv (Has.t rfl)) rfl ?_
    refine st (OK1.mv (Has.t rfl)) rfl ?_
    refine st (OK1.mv (Has.t rfl)) rfl ?_
    refine st (OK1.len sl35 (Has.t rfl)) rfl ?_
    refine st (OK1.eq (OK1.addI (Has.t rfl) (Has.t rfl) (by first | omega | assumption) (by first | omega | assumption)) ((show isI _ = isI ((n + xs.length : Nat) : Int) from isI_eq (by omega)))) rfl ?_
    refine Ops.make (f := isU) (u := 0) (n := n) (c := n + xs.length) sl35 ty66 zero66 (fun _ _ => ⟨⟨rfl, by decide⟩, trivial⟩) by66 (Has.t' rfl rfl) (Has.t' rfl rfl) ⟨by omega, by omega⟩ rfl fun b1 => ?_
    refine st (OK1.mv (Has.t rfl)) rfl ?_
    refine Ops.cv (Cv.winGrM (f := isU) (t := 13) (i := 0) (ys := List.replicate n 0) rfl rfl (by simp) (by simp) (by simp)) ?_
    refine Ops.memEq (M' := [grM _ _ _]) rfl ?_
    refine Ops.appendG (f := isU) (u := 0) sl35 ty66 zero66 (fun _ _ => ⟨⟨rfl, by decide⟩, trivial⟩) (fun _ => inferInstance) by66 (Has.t rfl) (i := 0) rfl (Has.t rfl) (by rw [List.length_replicate]; exact hn) (by omega) rfl fun gr1 => ?_
    refine Ops.memEq (M' := [grM _ _ _]) rfl ?_
    refine Ops.cv (Cv.freezeGn (t := 15) (i := 0) (ys := List.replicate n 0 ++ xs) rfl rfl rfl (by simp)) ?_
    refine Ops.memEq (M' := []) rfl ?_
    refine Ops.cv (Cv.wk (.cons (t := 0) (Has.t rfl) (.cons (t := 1) (Has.t rfl) (.cons (t := 4) (Has.t rfl) (.cons (t := 5) (Has.t rfl) (.cons (t := 6) (Has.t rfl) (.cons (t := 7) (Has.t rfl) (.cons (t := 8) (Has.t rfl) (.cons (t := 9) (Has.t rfl) (.cons (t := 10) (Has.t rfl) (.cons (t := 11) (Has.t rfl) (.cons (t := 12) (Has.t rfl) (.cons (t := 14) (Has.t rfl) (.cons (t := 15) (Has.t rfl) .nil)))))))))))))) ?_
    refine st (OK1.as (Has.t rfl)) rfl ?_
    refine nl ?_
    refine At.thn (hK5 _ _ ?_); clear hK5
    refine Tri.cv (Cv.wk (.cons (t := 4) (Has.t rfl) .nil)) ?_
    refine Tri.ret ?_
    refine rt1 (.inl rfl) Try.results83 rfl (.tmp (Has.t' rfl ?_) .nil)
    all_goals (exact SlM_eq (upW_app (by omega)))
set_option maxHeartbeats 4000000 in
theorem mul_joined {xs ys zs : List Nat} {n : Nat} (hx : (List.length (words (val xs))) ≤ 2100000000) (hn : n ≤ 1000000000) (hy : ys.length ≤ 2000000000) (hz : zs.length ≤ 2000000000) : Ctr Try.prog 73 [isWords xs, isWords ys, isWords zs, isI (n : Int)] (isWords (words (val xs + W ^ n * val ys + W ^ (2 * n) * val zs))) := by
  refine Ctr.intro Try.func73 rfl (by kernel_rfl) Try.ntmps73 rfl fun w0 F0 => ?_
  refine Tri.cv (Cv.wk (.cons (t := 0) (Has.t rfl) (.cons (t := 1) (Has.t rfl) (.cons (t := 2) (Has.t rfl) (.cons (t := 3) (Has.t rfl) .nil))))) ?_
  refine Tri.fact (Has.lenLt (Has.t (t := 0) rfl)) fun lt0 => ?_
  refine Tri.fact (Has.okW (Has.t (t := 0) rfl)) fun ok0 => ?_
  refine Tri.fact (Has.lenLt (Has.t (t := 1) rfl)) fun lt1 => ?_
  refine Tri.fact (Has.okW (Has.t (t := 1) rfl)) fun ok1 => ?_
  refine Tri.fact (Has.lenLt (Has.t (t := 2) rfl)) fun lt2 => ?_
  refine Tri.fact (Has.okW (Has.t (t := 2) rfl)) fun ok2 => ?_
  refine Tri.fact (Has.rngI (Has.t (t := 3) rfl)) fun lt3 => ?_
  have u1 := upW_nw (n := n) ok1
  have u2 := upW_nw (n := 2 * n) ok2
  have h1 := nw_add_le (val xs) (val (upW n ys))
  refine Tri.seq fun K1 hK1 => ?_
  refine Tri.region ?_
  refine st (OK1.as (Has.cW (f := isU))) rfl ?_
  refine nl ?_
  refine At.thn (hK1 _ _ ?_); clear hK1
  refine Tri.seq fun K2 hK2 => ?_
  refine Tri.region ?_
  refine st (OK1.as (Has.fn (ι := { p : List Nat × Nat // p.2 + p.1.length ≤ 4294967296 }) (As := fun p => [isWords p.1.1, isI (p.1.2 : Int)]) (R := fun p => isWords (upW p.1.2 p.1.1)) (fun p => mul_up p.2))) rfl ?_
  refine nl ?_
  refine At.thn (hK2 _ _ ?_); clear hK2
  refine Tri.seq fun K3 hK3 => ?_
  refine Tri.region ?_
  refine st (OK1.mv (Has.t rfl)) rfl ?_
  refine st (OK1.mv (Has.t rfl)) rfl ?_
  refine st (OK1.mv (Has.t rfl)) rfl ?_
  refine st (OK1.mv (Has.t rfl)) rfl ?_
  refine st (OK1.callV ⟨(ys, n), by show n + ys.length ≤ _; omega⟩ (Has.t rfl) (.cons (Has.t rfl) (.cons (Has.t rfl) .nil))) rfl ?_
  refine st (OK1.call (nat_Add (by first | with_reducible assumption | omega | (simp only [val_words]; omega)) (by first | with_reducible assumption | omega | (simp only [val_words]; omega))) (.cons (Has.t rfl) (.cons (Has.t rfl) .nil))) rfl ?_
  refine st (OK1.mv (Has.t rfl)) rfl ?_
  refine st (OK1.mv (Has.t rfl)) rfl ?_
  refine st (OK1.mv (Has.t rfl)) rfl ?_
  refine st (OK1.eq (OK1.mulI (Has.cI 2 rfl) (Has.t rfl) (by first | with_reducible assumption | omega | (simp only [val_words]; omega)) (by first | with_reducible assumption | omega | (simp only [val_words]; omega))) ((show isI _ = isI ((2 * n : Nat) : Int) from isI_eq (by omega)))) rfl ?_
  refine st (OK1.callV ⟨(zs, 2 * n), by show 2 * n + zs.length ≤ _; omega⟩ (Has.t rfl) (.cons (Has.t rfl) (.cons (Has.t rfl) .nil))) rfl ?_
  refine st (OK1.call (nat_Add (by first | with_reducible assumption | omega | (simp only [val_words]; omega)) (by first | with_reducible assumption | omega | (simp only [val_words]; omega))) (.cons (Has.t rfl) (.cons (Has.t rfl) .nil))) rfl ?_
  refine st (OK1.as (Has.t rfl)) rfl ?_
  refine nl ?_
  refine At.thn (hK3 _ _ ?_); clear hK3
  refine Tri.cv (Cv.wk (.cons (t := 8) (Has.t rfl) .nil)) ?_
  refine Tri.ret ?_
  refine rt1 (.inl rfl) Try.results73 rfl (.tmp (Has.t' rfl ?_) .nil)
  all_goals (exact SlM_eq (by rw [val_words, upW_val, upW_val]))
set_option maxHeartbeats 4000000 in
theorem mul_MulStep {xs ys : List Nat} (hx : (List.length (words (val xs))) ≤ 1000000000) (hy : (List.length (words (val ys))) ≤ 1000000000) (IH : ∀ us vs : List Nat, max ((List.length (words (val us)))) ((List.length (words (val vs)))) < max ((List.length (words (val xs)))) ((List.length (words (val ys)))) → (List.length (words (val us))) ≤ 1000000000 → (List.length (words (val vs))) ≤ 1000000000 → Ctr Try.prog 57 [isWords us, isWords vs] (isWords (words (val us * val vs)))) : Ctr Try.prog 57 [isWords xs, isWords ys] (isWords (words (val xs * val ys))) := by
  refine Ctr.intro Try.func57 rfl (by kernel_rfl) Try.ntmps57 rfl fun w0 F0 => ?_
  refine Tri.cv (Cv.wk (.cons (t := 0) (Has.t rfl) (.cons (t := 1) (Has.t rfl) .nil))) ?_
  refine Tri.fact (Has.lenLt (Has.t (t := 0) rfl)) fun lt0 => ?_
  refine Tri.fact (Has.okW (Has.t (t := 0) rfl)) fun ok0 => ?_
  refine Tri.fact (Has.lenLt (Has.t (t := 1) rfl)) fun lt1 => ?_
  refine Tri.fact (Has.okW (Has.t (t := 1) rfl)) fun ok1 => ?_
  obtain ⟨N, hN⟩ : ∃ N, N = (max ((List.length (words (val xs)))) ((List.length (words (val ys)))) + 1) / 2 := ⟨_, rfl⟩
  have kp := lowW_nw (val xs) N
  have kq := highW_nw (val xs) N
  have kr := lowW_nw (val ys) N
  have ks := highW_nw (val ys) N
  have ka := nw_add_le (val ((words (val xs)).take N)) (val ((words (val xs)).drop N))
  have kb := nw_add_le (val ((words (val ys)).take N)) (val ((words (val ys)).drop N))
  have ea := halves (val xs) N
  have eb := halves (val ys) N
  obtain ⟨p, hp⟩ : ∃ p, p = (words (val xs)).take N := ⟨_, rfl⟩
  obtain ⟨q, hq⟩ : ∃ q, q = (words (val xs)).drop N := ⟨_, rfl⟩
  obtain ⟨r, hr⟩ : ∃ r, r = (words (val ys)).take N := ⟨_, rfl⟩
  obtain ⟨s, hs⟩ : ∃ s, s = (words (val ys)).drop N := ⟨_, rfl⟩
  rw [← hp] at kp ka ea
  rw [← hq] at kq ka ea
  rw [← hr] at kr kb eb
  rw [← hs] at ks kb eb
  have kpr := nw_mul_le (val p) (val r)
  have kqs := nw_mul_le (val q) (val s)
  have kc := nw_mul_le (val p + val q) (val r + val s)
  have kc2 := nw_mono (Nat.sub_le ((val p + val q) * (val r + val s)) (val p * val r))
  have kc3 := nw_mono (Nat.sub_le ((val p + val q) * (val r + val s) - val p * val r) (val q * val s))
  refine Tri.seq fun K1 hK1 => ?_
  refine Tri.region ?_
  refine st (OK1.as (Has.cW (f := isU))) rfl ?_
  refine nl ?_
  refine At.thn (hK1 _ _ ?_); clear hK1
  refine Tri.seq fun K2 hK2 => ?_
  refine Tri.region ?_
  refine st (OK1.mv (Has.t rfl)) rfl ?_
  refine st (OK1.eq (OK1.call (nat_Norm (by first | with_reducible assumption | omega | (simp only [val_words]; omega))) (.cons (Has.t rfl) .nil)) (by first | (simp only [val_words]; rfl) | rfl)) rfl ?_
  refine st (OK1.mv (Has.t rfl)) rfl ?_
  refine st (OK1.eq (OK1.call (nat_Norm (by first | with_reducible assumption | omega | (simp only [val_words]; omega))) (.cons (Has.t rfl) .nil)) (by first | (simp only [val_words]; rfl) | rfl)) rfl ?_
  refine st (OK1.as (Has.t rfl)) rfl ?_
  refine st (OK1.as (Has.t rfl)) rfl ?_
  refine nl ?_
  refine At.thn (hK2 _ _ ?_); clear hK2
  refine Tri.seq fun K3 hK3 => ?_
  refine Tri.seq fun K4 hK4 => ?_
  refine Tri.region ?_
  refine st (OK1.mv (Has.t rfl)) rfl ?_
  refine st (OK1.len sl35 (Has.t rfl)) rfl ?_
  refine st (OK1.mv (Has.t rfl)) rfl ?_
  refine st (OK1.len sl35 (Has.t rfl)) rfl ?_
  refine st (OK1.minI (Has.t rfl) (Has.t rfl)) rfl ?_
  refine st (OK1.leI (Has.t rfl) (Has.cI 8 rfl)) rfl ?_
  refine nl ?_
  refine At.thn (hK4 _ _ ?_); clear hK4
  refine Tri.cv (Cv.wk (.cons (t := 0) (Has.t rfl) (.cons (t := 1) (Has.t rfl) (.cons (t := 4) (Has.t rfl) (.cons (t := 22) (Has.t rfl) .nil))))) ?_
  refine Tri.cond (Has.t rfl) (fun hc1 => ?_) (fun hc1 => ?_)
  · have hc1 := BP.t hc1
    have HM : (List.length (words (val xs))) ≤ 8 ∨ (List.length (words (val ys))) ≤ 8 := (by revert hc1; split <;> intro hc1 <;> omega)
    refine Tri.seq fun K5 hK5 => ?_
    refine Tri.region ?_
    refine st (OK1.mv (Has.t rfl)) rfl ?_
    refine st (OK1.mv (Has.t rfl)) rfl ?_
    refine st (OK1.eq (OK1.call (nat_Mul (by first | with_reducible assumption | omega | (simp only [val_words]; omega))) (.cons (Has.t rfl) (.cons (Has.t rfl) .nil))) (by first | (simp only [val_words]; rfl) | rfl)) rfl ?_
    refine st (OK1.as (Has.t rfl)) rfl ?_
    refine nl ?_
    refine At.thn (hK5 _ _ ?_); clear hK5
    refine Tri.ret ?_
    refine At.thr ?_
    refine rt1 (.inl rfl) Try.results57 rfl (.tmp (Has.t' rfl ?_) .nil)
    all_goals (rfl)
  · have hc1 := BP.f hc1
    have HM : 8 < (List.length (words (val xs))) ∧ 8 < (List.length (words (val ys))) := (by revert hc1; split <;> intro hc1 <;> omega)
    refine Tri.skip ?_
    refine At.thn (hK3 _ _ ?_); clear hK3
    refine Tri.seq fun K6 hK6 => ?_
    refine Tri.region ?_
    refine st (OK1.mv (Has.t rfl)) rfl ?_
    refine st (OK1.len sl35 (Has.t rfl)) rfl ?_
    refine st (OK1.mv (Has.t rfl)) rfl ?_
    refine st (OK1.len sl35 (Has.t rfl)) rfl ?_
    refine st (OK1.maxI (Has.t rfl) (Has.t rfl)) rfl ?_
    refine st (OK1.addI (Has.t rfl) (Has.cI 1 rfl) (by first | with_reducible assumption | omega | (simp only [val_words]; omega)) (by first | with_reducible assumption | omega | (simp only [val_words]; omega))) rfl ?_
    refine st (OK1.eq (OK1.quoI (Has.t rfl) (Has.cI 2 rfl) (by first | with_reducible assumption | omega | (simp only [val_words]; omega)) (by first | with_reducible assumption | omega | (simp only [val_words]; omega)) (by first | with_reducible assumption | omega | (simp only [val_words]; omega))) ((show isI _ = isI (N : Int) from isI_eq (by rw [hN]; split <;> omega)))) rfl ?_
    refine st (OK1.as (Has.t rfl)) rfl ?_
    refine nl ?_
    refine At.thn (hK6 _ _ ?_); clear hK6
    refine Tri.cv (Cv.wk (.cons (t := 0) (Has.t rfl) (.cons (t := 1) (Has.t rfl) (.cons (t := 4) (Has.t rfl) (.cons (t := 5) (Has.t rfl) .nil))))) ?_
    refine Tri.seq fun K7 hK7 => ?_
    refine Tri.region ?_
    refine st (OK1.mv (Has.t rfl)) rfl ?_
    refine st (OK1.mv (Has.t rfl)) rfl ?_
    refine st (OK1.eq (OK1.call (mul_low) (.cons (Has.t rfl) (.cons (Has.t rfl) .nil))) ((show isWords ((words (val xs)).take N) = isWords p from SlM_eq hp.symm))) rfl ?_
    refine st (OK1.mv (Has.t rfl)) rfl ?_
    refine st (OK1.mv (Has.t rfl)) rfl ?_
    refine st (OK1.eq (OK1.call (mul_high) (.cons (Has.t rfl) (.cons (Has.t rfl) .nil))) ((show isWords ((words (val xs)).drop N) = isWords q from SlM_eq hq.symm))) rfl ?_
    refine st (OK1.mv (Has.t rfl)) rfl ?_
    refine st (OK1.mv (Has.t rfl)) rfl ?_
    refine st (OK1.eq (OK1.call (mul_low) (.cons (Has.t rfl) (.cons (Has.t rfl) .nil))) ((show isWords ((words (val ys)).take N) = isWords r from SlM_eq hr.symm))) rfl ?_
    refine st (OK1.mv (Has.t rfl)) rfl ?_
    refine st (OK1.mv (Has.t rfl)) rfl ?_
    refine st (OK1.eq (OK1.call (mul_high) (.cons (Has.t rfl) (.cons (Has.t rfl) .nil))) ((show isWords ((words (val ys)).drop N) = isWords s from SlM_eq hs.symm))) rfl ?_
    refine st (OK1.as (Has.t rfl)) rfl ?_
    refine st (OK1.as (Has.t rfl)) rfl ?_
    refine st (OK1.as (Has.t rfl)) rfl ?_
    refine st (OK1.as (Has.t rfl)) rfl ?_
    refine nl ?_
    refine At.thn (hK7 _ _ ?_); clear hK7
    refine Tri.cv (Cv.wk (.cons (t := 4) (Has.t rfl) (.cons (t := 5) (Has.t rfl) (.cons (t := 6) (Has.t rfl) (.cons (t := 7) (Has.t rfl) (.cons (t := 8) (Has.t rfl) (.cons (t := 9) (Has.t rfl) .nil))))))) ?_
    refine Tri.seq fun K8 hK8 => ?_
    refine Tri.region ?_
    refine st (OK1.mv (Has.t rfl)) rfl ?_
    refine st (OK1.mv (Has.t rfl)) rfl ?_
    refine st (OK1.call (IH _ _ (by first | with_reducible assumption | omega | (simp only [val_words]; omega)) (by first | with_reducible assumption | omega | (simp only [val_words]; omega)) (by first | with_reducible assumption | omega | (simp only [val_words]; omega))) (.cons (Has.t rfl) (.cons (Has.t rfl) .nil))) rfl ?_
    refine st (OK1.mv (Has.t rfl)) rfl ?_
    refine st (OK1.mv (Has.t rfl)) rfl ?_
    refine st (OK1.call (IH _ _ (by first | with_reducible assumption | omega | (simp only [val_words]; omega)) (by first | with_reducible assumption | omega | (simp only [val_words]; omega)) (by first | with_reducible assumption | omega | (simp only [val_words]; omega))) (.cons (Has.t rfl) (.cons (Has.t rfl) .nil))) rfl ?_
    refine st (OK1.as (Has.t rfl)) rfl ?_
    refine st (OK1.as (Has.t rfl)) rfl ?_
    refine nl ?_
    refine At.thn (hK8 _ _ ?_); clear hK8
    refine Tri.cv (Cv.wk (.cons (t := 4) (Has.t rfl) (.cons (t := 5) (Has.t rfl) (.cons (t := 6) (Has.t rfl) (.cons (t := 7) (Has.t rfl) (.cons (t := 8) (Has.t rfl) (.cons (t := 9) (Has.t rfl) (.cons (t := 10) (Has.t rfl) (.cons (t := 11) (Has.t rfl) .nil))))))))) ?_
    refine Tri.seq fun K9 hK9 => ?_
    refine Tri.region ?_
    refine st (OK1.mv (Has.t rfl)) rfl ?_
    refine st (OK1.mv (Has.t rfl)) rfl ?_
    refine st (OK1.eq (OK1.call (nat_Add (by first | with_reducible assumption | omega | (simp only [val_words]; omega)) (by first | with_reducible assumption | omega | (simp only [val_words]; omega))) (.cons (Has.t rfl) (.cons (Has.t rfl) .nil))) ((show isWords (words (val p + val q)) = _ from rfl))) rfl ?_
    refine st (OK1.mv (Has.t rfl)) rfl ?_
    refine st (OK1.mv (Has.t rfl)) rfl ?_
    refine st (OK1.call (nat_Add (by first | with_reducible assumption | omega | (simp only [val_words]; omega)) (by first | with_reducible assumption | omega | (simp only [val_words]; omega))) (.cons (Has.t rfl) (.cons (Has.t rfl) .nil))) rfl ?_
    refine st (OK1.eq (OK1.call (IH _ _ (by first | with_reducible assumption | omega | (simp only [val_words]; omega)) (by first | with_reducible assumption | omega | (simp only [val_words]; omega)) (by first | with_reducible assumption | omega | (simp only [val_words]; omega))) (.cons (Has.t rfl) (.cons (Has.t rfl) .nil))) ((show isWords _ = isWords (words ((val p + val q) * (val r + val s))) from SlM_eq (by rw [val_words, val_words])))) rfl ?_
    refine st (OK1.mv (Has.t rfl)) rfl ?_
    refine st (OK1.eq (OK1.call (mul_less (by first | with_reducible assumption | omega | (simp only [val_words]; omega))) (.cons (Has.t rfl) (.cons (Has.t rfl) .nil))) ((show isWords _ = isWords (words ((val p + val q) * (val r + val s) - val p * val r)) from SlM_eq (by rw [val_words, val_words])))) rfl ?_
    refine st (OK1.mv (Has.t rfl)) rfl ?_
    refine st (OK1.eq (OK1.call (mul_less (by first | with_reducible assumption | omega | (simp only [val_words]; omega))) (.cons (Has.t rfl) (.cons (Has.t rfl) .nil))) ((show isWords _ = isWords (words ((val p + val q) * (val r + val s) - val p * val r - val q * val s)) from SlM_eq (by rw [val_words, val_words])))) rfl ?_
    refine st (OK1.as (Has.t rfl)) rfl ?_
    refine nl ?_
    refine At.thn (hK9 _ _ ?_); clear hK9
    refine Tri.cv (Cv.wk (.cons (t := 4) (Has.t rfl) (.cons (t := 5) (Has.t rfl) (.cons (t := 10) (Has.t rfl) (.cons (t := 11) (Has.t rfl) (.cons (t := 12) (Has.t rfl) .nil)))))) ?_
    refine Tri.seq fun K10 hK10 => ?_
    refine Tri.region ?_
    refine st (OK1.mv (Has.t rfl)) rfl ?_
    refine st (OK1.mv (Has.t rfl)) rfl ?_
    refine st (OK1.mv (Has.t rfl)) rfl ?_
    refine st (OK1.mv (Has.t rfl)) rfl ?_
    refine st (OK1.call (mul_joined (by simp only [val_words]; omega) (by omega) (by omega) (by omega)) (.cons (Has.t rfl) (.cons (Has.t rfl) (.cons (Has.t rfl) (.cons (Has.t rfl) .nil))))) rfl ?_
    refine st (OK1.as (Has.t rfl)) rfl ?_
    refine nl ?_
    refine At.thn (hK10 _ _ ?_); clear hK10
    refine Tri.cv (Cv.wk (.cons (t := 4) (Has.t rfl) .nil)) ?_
    refine Tri.ret ?_
    refine rt1 (.inl rfl) Try.results57 rfl (.tmp (Has.t' rfl ?_) .nil)
    all_goals (exact SlM_eq (by simp only [val_words]; rw [kara, ea, eb]))
theorem mul_Mul : ∀ {xs ys : List Nat}, (List.length (words (val xs))) ≤ 1000000000 → (List.length (words (val ys))) ≤ 1000000000 → Ctr Try.prog 57 [isWords xs, isWords ys] (isWords (words (val xs * val ys))) := by
  have h : ∀ N, ∀ xs ys : List Nat, max ((List.length (words (val xs)))) ((List.length (words (val ys)))) ≤ N → (List.length (words (val xs))) ≤ 1000000000 → (List.length (words (val ys))) ≤ 1000000000 → Ctr Try.prog 57 [isWords xs, isWords ys] (isWords (words (val xs * val ys))) := by
    intro N
    induction N with
    | zero => intro xs ys h hx hy; exact mul_MulStep hx hy (fun us vs hl => absurd hl (by omega))
    | succ N ih => intro xs ys h hx hy; exact mul_MulStep hx hy (fun us vs hl => ih us vs (by omega))
  intro xs ys hx hy
  exact h _ xs ys (Nat.le_refl _) hx hy
end Go.Proofs.Ytcfobfedliajdaa
/- Drawn regions in which stores into blocks of the call's own stand beside what reads others. -/
namespace Go.En
open Go.RowKit
set_option linter.unusedVariables false
section
variable {E : Env} {P : Program} {Γ : Ctx} {M : Mem} {ty : TypeId} {pos : String} {after : Array Edge} {gd : Option (Nat × Bool)} {d : Option Tmp}
  {ops : Array Oper} {Q : Exit → Act → World → Prop} {rest : List Oper}
theorem Sat.sub {M' : Mem} {a : Act} {w : World} {F : Blk} (s : Sat E Γ M a w F) (h : M'.Sublist M) : Sat E Γ M' a w F :=
  { s with mem := ⟨s.mem.apart.sublist h, fun b C hb => s.mem.each b C (h.subset hb)⟩ }
/-- a step that stores into one of the blocks -/
def StS (E : Env) (P : Program) (Δ : Ctx) (M : Mem) (o : Oper) (M' : Mem) : Prop := o.guard = none ∧ ∀ a w F, Sat E Δ M a w F → ∀ (K : Act → World → Prop) (Q : Exit → Act → World → Prop),
  (∀ w', (∀ b, F b → w'.heap[b]? = w.heap[b]?) → (∀ Γ'', Sat E Γ'' M a w F → Sat E Γ'' M' a w' F) → K a w') → o.wp P a w K Q
theorem StS.store {x y : Operand} {b off i n : Nat} {g : Bool} {T : TypeId} {Ss Ss1 : List VP} {S : VP} [sh : Shape S Ss1] [o1 : Ones Ss1] (hx : Has E Γ M x (isPtr b off)) (hy : Has E Γ M y S)
    (hM : M[i]? = some (some b, cellM Ss)) (hT : tyB P T = some (n, g)) (hn : Nat.beq Ss1.length n = true) (hl : Nat.ble (off + n) Ss.length = true) {Ss' : List VP} {M' : Mem} (hS : Ss.take off ++ Ss1 ++ Ss.drop (off + n) = Ss')
    (hM' : M.set i (some b, cellM Ss') = M') : StS E P Γ M ⟨none, .store T x y, ty, pos, after, none⟩ M' := by
  refine ⟨rfl, fun a w F s K Q hK => ?_⟩
  obtain ⟨o, hb, vs, T', rfl, hv⟩ := mem_at s hM
  have h1 : a.eval x = .pointer (some ⟨b, off, none⟩) := hx a w F s
  have hy' := sh.cells _ _ _ (hy a w F s)
  have hn' : Ss1.length = n := Nat.eq_of_beq_eq_true hn
  have hl' := Nat.le_of_ble_eq_true hl
  have e1 := hv.len
  have e2 := hy'.len
  have hcs : (a.eval y).cells.size = n := by rw [← Array.length_toList, ← e2, hn']
  unfold Oper.wp
  have hr : (execOp a.eval (⟨none, .store T x y, ty, pos, after, none⟩ : Oper)).run P w = .ok .skip (w.setRow b (vs.take off ++ (a.eval y).cells.toList ++ vs.drop (off + n)).toArray) := by
    have h2 := run_storeCells_at P b off T' (a.eval y).cells.toList 0 vs.toArray w hb (by simp; omega) (hy'.one o1.ones)
    simp only [Nat.add_zero, Array.length_toList, hcs] at h2
    simp only [execOp, h1, Instr.storeAt, Instr.sureAddr, storeVar, Sem.run_bind, Sem.run_pure, Result.andThen_ok, run_size hT, hcs]
    simp only [ne_eq, not_true_eq_false, if_false, h2, Result.andThen_ok]
  rw [hr]
  have hF : ∀ k, F k → (w.setRow b (vs.take off ++ (a.eval y).cells.toList ++ vs.drop (off + n)).toArray).heap[k]? = w.heap[k]? := fun k hk => setRow_ne _ _ _ _ (fun e => by
    subst e; exact (s.mem.each k _ (List.mem_of_getElem? hM)).2.2.1 hk)
  refine hK _ hF fun Γ'' s'' => ?_
  rw [← hM']
  refine s''.write hM rfl rfl rfl (setRow_size _ _ _) (fun k hk => setRow_ne _ _ _ _ hk) (setRow_heap _ _ _ _ _ _ hb) ⟨_, T', rfl, ?_⟩
  refine All2.mono hF (fun _ h => h) _ _ ?_
  rw [← hS]
  exact ((hv.take off).append hy').append (hv.drop _)
/-- one store of the row of stores: what it stands behind -/
structure MidAt (E : Env) (P : Program) (l : List Oper) (Γ : Ctx) (Ss : List VP) (n1 m : Nat) (M M' : Mem) : Prop where
  ex : ∃ (o : Oper) (Δ : Ctx), l[n1 + m]? = some o ∧ o.dst = none ∧
    (∀ t S, look Δ t = some S → (∃ (j : Nat) (oj : Oper), (((masks l [])[n1 + m]?).getD 0).testBit j = true ∧ l[j]? = some oj ∧ oj.dst = some t ∧ Ss[j]? = some S) ∨ look Γ t = some S) ∧
    (∀ j, j < m → (((masks l [])[n1 + m]?).getD 0).testBit (n1 + j) = true) ∧ StS E P Δ M o M'
theorem phaseC {l : List Oper} {n1 k : Nat} {Ss : List VP} {Ms : Mem} {f : Nat → Mem} (hD : Dr E P l Γ Ms n1 Ss) (hsub : ∀ m, m ≤ k → Ms.Sublist (f m)) (hmid : ∀ m, m < k → MidAt E P l Γ Ss n1 m (f m) (f (m + 1)))
    (hap : apartB l n1 Γ = true) (htl : tailB l (n1 + k) = true) (hnl : n1 + k ≤ l.length) (kk : Ops E P l.toArray Q (l.drop (n1 + k)) (dctx (l.take n1) Ss ++ Γ) (f k)) :
    ∀ (fuel : Nat) (listed : Array Bool) (a : Act) (w : World) (F : Blk) (m : Nat), m ≤ k → listed.toList.countP (· == false) ≤ fuel → listed.size = l.length →
    (∀ j, n1 + m ≤ j → j < l.length → listed.getD j true = false) → (∀ j, n1 ≤ j → j < n1 + m → listed.getD j true = true) → Closed l (fun j => listed.getD j false = true) → Sat E Γ (f m) a w F → Done l Ss (fun j => listed.getD j false = true) a w F →
    wpAny P .any l.toArray Q fuel listed a w := by
  obtain ⟨hlen, hat⟩ := hD.at
  have hsp := tailB_spec htl
  have gd : ∀ (listed : Array Bool) j, j < listed.size → listed.getD j true = listed.getD j false := fun listed j hj => by simp [hj]
  have hapart : ∀ i d, i < n1 → (l[i]?).bind (·.dst) = some d → (∀ t S, look Γ t = some S → t ≠ d) ∧ ∀ j e, j < n1 → j ≠ i → (l[j]?).bind (·.dst) = some e → e ≠ d := by
    intro i d hi hd
    unfold apartB at hap
    rw [List.all_eq_true] at hap
    have h1 := hap i (by simpa using hi)
    rw [hd] at h1
    simp only [Bool.and_eq_true] at h1
    refine ⟨look_none h1.1, fun j e hj hne he => ?_⟩
    have h2 := List.all_eq_true.1 h1.2 j (by simpa using hj)
    rw [he] at h2
    simp only [Bool.or_eq_true, Bool.not_eq_true'] at h2
    rcases h2 with h2 | h2
    · exact absurd (Nat.eq_of_beq_eq_true h2).symm hne
    · exact fun e' => Nat.ne_of_beq_eq_false h2 e'.symm
  have hend : ∀ (fuel : Nat) (listed : Array Bool) (a : Act) (w : World) (F : Blk) (m : Nat), m ≤ k → listed.toList.countP (· == false) ≤ fuel → listed.size = l.length →
      (∀ j, n1 + m ≤ j → j < l.length → listed.getD j true = false) → Closed l (fun j => listed.getD j false = true) → Sat E Γ (f m) a w F → Done l Ss (fun j => listed.getD j false = true) a w F →
      (∀ j, j < n1 + k → j < l.length → listed.getD j true = true) → wpAny P .any l.toArray Q fuel listed a w := by
    intro fuel listed a w F m hm hcnt hsz htail hc s hdone hall
    obtain rfl : m = k := by
      rcases Nat.lt_or_ge m k with h | h
      · have h1 := htail (n1 + m) (Nat.le_refl _) (by omega)
        have h2 := hall (n1 + m) (by omega) (by omega)
        rw [h1] at h2; cases h2
      · omega
    have hge := count_ge hsz htail
    refine phaseB htl fuel (n1 + m) listed a w (Nat.le_refl _) (by omega) hsz hall htail hc (kk a w F (s.wider ?_))
    intro t S ht
    rw [look_append] at ht
    cases hl : look (dctx (l.take n1) Ss) t with
    | none => rw [hl] at ht; exact s.slots t S (by simpa using ht)
    | some S' =>
      rw [hl] at ht
      obtain rfl : S' = S := by simpa using ht
      obtain ⟨j, o, h1, h2, h3⟩ := look_dctx _ _ _ _ hl
      have hj : j < n1 := by
        rcases Nat.lt_or_ge j n1 with h' | h'
        · exact h'
        · rw [List.getElem?_eq_none (by omega)] at h3; cases h3
      rw [List.getElem?_take_of_lt hj] at h1
      exact hdone j o t S' (by have h4 := hall j (by omega) (by omega); rw [gd listed j (by omega)] at h4; exact h4) h1 h2 h3
  intro fuel
  induction fuel with
  | zero =>
    intro listed a w F m hm hcnt hsz htail hmids hc s hdone
    refine hend 0 listed a w F m hm hcnt hsz htail hc s hdone fun j hj hjl => ?_
    have hlt : j < listed.size := by omega
    have h0 : listed.toList.countP (· == false) = 0 := by omega
    rw [List.countP_eq_zero] at h0
    have := h0 listed[j] (by simp)
    simp [hlt]
    simpa using this
  | succ fuel ih =>
    intro listed a w F m hm hcnt hsz htail hmids hc s hdone
    by_cases hall : ∀ j, j < n1 + k → j < l.length → listed.getD j true = true
    · exact hend _ listed a w F m hm hcnt hsz htail hc s hdone hall
    · have hex : ∃ j, j < n1 + k ∧ listed.getD j true = false := by
        refine Classical.byContradiction fun hno => hall fun j hj _ => ?_
        cases hb : listed.getD j true with
        | true => rfl
        | false => exact absurd ⟨j, hj, hb⟩ hno
      refine ⟨fun hr => ?_, fun i hi => ?_⟩
      · obtain ⟨j, ⟨hj1, hj2⟩, hmin⟩ := exists_least hex
        have : j ∈ Region.ready .any l.toArray listed := by
          rw [mem_ready]
          have hjl : j < l.length := by omega
          refine ⟨hj2, l[j], by simp [hjl], fun e he hb => ?_⟩
          have hlt := hsp.1 j _ (List.getElem?_eq_getElem hjl) e he hb
          cases hbb : listed.getD e.on true with
          | true => rw [gd listed e.on (by omega)] at hbb; exact hbb
          | false => have := hmin e.on ⟨by omega, hbb⟩; omega
        rw [hr] at this; simp at this
      · have hi' := hi
        rw [mem_ready] at hi
        obtain ⟨g1, o, g2, g3⟩ := hi
        have g2' : l[i]? = some o := by simpa using g2
        have hil : i < l.length := by
          rcases Nat.lt_or_ge i l.length with h' | h'
          · exact h'
          · rw [List.getElem?_eq_none h'] at g2'; cases g2'
        have hin : i < n1 + k := by
          rcases Nat.lt_or_ge i (n1 + k) with h' | h'
          · exact h'
          · obtain ⟨j, hj1, hj2⟩ := hex
            obtain ⟨q, hq, hb⟩ := hsp.2 i hil h' j (by omega)
            have := reach hc i o g2' g3 j q hq hb
            have e : listed.getD j false = true := this
            rw [← gd listed j (by omega), hj2] at e; cases e
        have hmask : i < (masks l []).length := by rw [masks_len]; simpa using hil
        have hcount : (listed.setIfInBounds i true).toList.countP (· == false) ≤ fuel := by
          have hlt : i < listed.toList.length := by simp; omega
          have hli : listed.toList[i] = false := by
            have : i < listed.size := by omega
            simp [this] at g1; simpa using g1
          rw [Array.toList_setIfInBounds, List.countP_set hlt]
          rw [hli]
          have hpos : 0 < listed.toList.countP (· == false) := List.countP_pos_iff.2 ⟨false, by rw [← hli]; exact List.getElem_mem _, rfl⟩
          simp only [beq_self_eq_true, if_true]
          show _ - 1 + 0 ≤ fuel
          omega
        have hclosed : Closed l (fun j => (listed.setIfInBounds i true).getD j false = true) := by
          intro j oj hj hL e he hb
          by_cases ek : j = i
          · subst ek
            rw [g2'] at hj; obtain rfl := Option.some.inj hj
            exact getD_set_true (g3 e he hb)
          · exact getD_set_true (hc j oj hj (by
              have hL' : (listed.setIfInBounds i true).getD j false = true := hL
              rwa [getD_set_ne false (fun h => ek h.symm)] at hL') e he hb)
        have hctx : ∀ Δ : Ctx, (∀ t S, look Δ t = some S → (∃ (j : Nat) (oj : Oper), (((masks l [])[i]?).getD 0).testBit j = true ∧ l[j]? = some oj ∧ oj.dst = some t ∧ Ss[j]? = some S) ∨ look Γ t = some S) →
            ∀ t S, look Δ t = some S → S.h w F (a.tmps.getD t undef) := by
          intro Δ a6 t S' ht
          rcases a6 t S' ht with ⟨j, oj, b0, b1, b2, b3⟩ | h
          · rw [List.getElem?_eq_getElem hmask] at b0
            exact hdone j oj t S' (reach hc i o g2' g3 j _ (List.getElem?_eq_getElem hmask) (by simpa using b0)) b1 b2 b3
          · exact s.slots t S' h
        have ho : l.toArray[i]? = some o := by simpa using g2'
        rcases Nat.lt_or_ge i n1 with hin1 | hin1
        · obtain ⟨o', d, S, Δ, a1, a2, a3, a4, a6, a7⟩ := hat i hin1
          rw [g2'] at a1; obtain rfl := Option.some.inj a1
          have hbind : (l[i]?).bind (·.dst) = some d := by rw [g2']; exact a2
          obtain ⟨ap1, ap2⟩ := hapart i d hin1 hbind
          have hsat : Sat E Δ Ms a w F := (s.wider (hctx Δ a6)).sub (hsub m hm)
          have hstep := a7 a w F hsat (wpAny P .any l.toArray Q fuel (listed.setIfInBounds i true)) Q
          have hgo : ∀ v w' F', Adv w F w' F' → S.h w' F' v → wpAny P .any l.toArray Q fuel (listed.setIfInBounds i true) (a.put o.dst v) w' := by
            intro v w' F' ad hv
            rw [a2]
            have s1 := s.adv ad
            refine ih _ _ w' F' m hm hcount (by simp [hsz]) (fun j hj hjl => ?_) (fun j h1 h2 => ?_) hclosed (s1.putOut a3 v ap1) ?_
            · rw [getD_set_ne true (by omega)]; exact htail j hj hjl
            · rw [getD_set_ne true (by omega)]; exact hmids j h1 h2
            · intro j oj dj Sj hL hj hdj hSj
              rw [getD_put (by rw [s1.size]; exact a3)]
              by_cases ek : j = i
              · subst ek
                rw [g2'] at hj; obtain rfl := Option.some.inj hj
                rw [a2] at hdj; obtain rfl := Option.some.inj hdj
                rw [a4] at hSj; obtain rfl := Option.some.inj hSj
                rw [if_pos rfl]; exact hv
              · have hjn : j < n1 := by
                  rcases Nat.lt_or_ge j n1 with h' | h'
                  · exact h'
                  · rw [List.getElem?_eq_none (by omega)] at hSj; cases hSj
                have hne := ap2 j dj hjn ek (by rw [hj]; exact hdj)
                rw [if_neg (fun e => hne e.symm)]
                refine Sj.mono _ _ _ _ _ (hdone j oj dj Sj ?_ hj hdj hSj) (ad.same s.flt) ad.sub
                have hL' : (listed.setIfInBounds i true).getD j false = true := hL
                rwa [getD_set_ne false (fun h => ek h.symm)] at hL'
          have hres := hstep hgo
          unfold wpOp
          rw [ho]
          exact hres
        · -- a store: the next one of the row
          have him : n1 + m ≤ i := by
            rcases Nat.lt_or_ge i (n1 + m) with h | h
            · rw [hmids i hin1 h] at g1; cases g1
            · exact h
          have hieq : i = n1 + m := by
            rcases Nat.lt_or_ge (n1 + m) i with h | h
            · obtain ⟨o', Δ, b1, b2, b3, b4, b5⟩ := (hmid (i - n1) (by omega)).ex
              have hb := b4 m (by omega)
              rw [show n1 + (i - n1) = i by omega, List.getElem?_eq_getElem hmask] at hb
              have := reach hc i o g2' g3 (n1 + m) _ (List.getElem?_eq_getElem hmask) (by simpa using hb)
              have e : listed.getD (n1 + m) false = true := this
              rw [← gd listed (n1 + m) (by omega), htail (n1 + m) (Nat.le_refl _) (by omega)] at e; cases e
            · omega
          subst hieq
          have hmk : m < k := by omega
          obtain ⟨o', Δ, b1, b2, b3, b4, b5, b6⟩ := (hmid m hmk).ex
          rw [g2'] at b1; obtain rfl := Option.some.inj b1
          have hsat : Sat E Δ (f m) a w F := s.wider (hctx Δ b3)
          have hgo : ∀ w', (∀ b, F b → w'.heap[b]? = w.heap[b]?) → (∀ Γ'', Sat E Γ'' (f m) a w F → Sat E Γ'' (f (m + 1)) a w' F) → wpAny P .any l.toArray Q fuel (listed.setIfInBounds (n1 + m) true) a w' := by
            intro w' hF hS
            refine ih _ _ w' F (m + 1) hmk hcount (by simp [hsz]) (fun j hj hjl => ?_) (fun j h1 h2 => ?_) hclosed (hS Γ s) ?_
            · rw [getD_set_ne true (by omega)]; exact htail j (by omega) hjl
            · by_cases e : j = n1 + m
              · subst e
                have : n1 + m < listed.size := by omega
                simp [this]
              · rw [getD_set_ne true (by omega)]; exact hmids j h1 (by omega)
            · intro j oj dj Sj hL hj hdj hSj
              have hjn : j < n1 := by
                rcases Nat.lt_or_ge j n1 with h' | h'
                · exact h'
                · rw [List.getElem?_eq_none (by omega)] at hSj; cases hSj
              refine Sj.mono _ _ _ _ _ (hdone j oj dj Sj ?_ hj hdj hSj) hF (fun _ h => h)
              have hL' : (listed.setIfInBounds (n1 + m) true).getD j false = true := hL
              rwa [getD_set_ne false (by omega)] at hL'
          unfold wpOp
          rw [ho]
          show if Region.wanted o (yielded l.toArray a.tmps) then _ else _
          rw [if_pos (by simp [Region.wanted, b5])]
          exact .inl (b6 a w F hsat _ Q hgo)
/-- step by step: Θ is what the slots written so far hold; what only reads is shown over a part of the memory -/
def DrH (E : Env) (P : Program) (id : Nat) (l : List Oper) (Γ : Ctx) (M Ms : Mem) (Q : Exit → Act → World → Prop) (i : Nat) (Θ : Ctx) : Prop :=
  ∀ Ss, Dr E P l Γ Ms i Ss → (∀ t S, look Θ t = some S → ∃ (j : Nat) (o : Oper), j < i ∧ l[j]? = some o ∧ o.dst = some t ∧ Ss[j]? = some S) → Tri E P (.region id l.toArray true) Γ M Q
def keepM : List Bool → Mem → Mem
  | true :: bs, m :: M => m :: keepM bs M
  | false :: bs, _ :: M => keepM bs M
  | _, _ => []
theorem Tri.drh {id : Nat} {l : List Oper} {Ms : Mem} (bs : List Bool) (e : keepM bs M = Ms) (h : DrH E P id l Γ M Ms Q 0 []) : Tri E P (.region id l.toArray true) Γ M Q := h [] .nil (fun t S ht => by simp [look] at ht)
theorem DrH.st {id i d : Nat} {l : List Oper} {Θ : Ctx} {S : VP} {o : Oper} {Ms : Mem} (ts : List Nat) (h1 : l[i]? = some o) (h2 : o.dst = some d) (h3 : Nat.blt d E.n = true)
    (h4 : behindB l i ts = true) (h5 : OKG E P l.toArray (keepc ts Θ ++ Γ) Ms o S) (k : DrH E P id l Γ M Ms Q (i + 1) ((d, S) :: Θ)) : DrH E P id l Γ M Ms Q i Θ := by
  intro Ss hD hΘ
  obtain ⟨hlen, _⟩ := hD.at
  refine k (Ss ++ [S]) (.snoc _ hD h1 h2 h3 (fun t S' ht => ?_) h5) (fun t S' ht => ?_)
  · rw [look_append] at ht
    cases hl : look (keepc ts Θ) t with
    | none => rw [hl] at ht; exact .inr (by simpa using ht)
    | some S'' =>
      rw [hl] at ht
      obtain rfl : S'' = S' := by simpa using ht
      obtain ⟨hm, hl2⟩ := look_keepc _ _ _ hl
      obtain ⟨j, oj, b0, b1, b2, b3⟩ := hΘ t S'' hl2
      refine .inl ⟨j, oj, ?_, b1, b2, b3⟩
      have := List.all_eq_true.1 h4 j (by simpa using b0)
      rw [b1] at this
      simp only [Option.bind_some, b2, Bool.or_eq_true] at this
      rcases this with h | h
      · exact h
      · have := List.all_eq_true.1 h t hm
        simp [Nat.beq_refl] at this
  · simp only [look] at ht
    cases hb : Nat.beq d t with
    | true =>
      rw [hb] at ht; simp at ht; subst ht
      obtain rfl := Nat.eq_of_beq_eq_true hb
      exact ⟨i, o, by omega, h1, h2, by rw [List.getElem?_append_right (by omega)]; simp [hlen]⟩
    | false =>
      rw [hb] at ht
      obtain ⟨j, oj, b0, b1, b2, b3⟩ := hΘ t S' ht
      exact ⟨j, oj, by omega, b1, b2, by rw [List.getElem?_append_left (by omega)]; exact b3⟩
/-- the stores, one by one -/
def DrM (E : Env) (P : Program) (id : Nat) (l : List Oper) (Γ : Ctx) (M Ms : Mem) (Q : Exit → Act → World → Prop) (n1 : Nat) (Θ : Ctx) (m : Nat) (Mc : Mem) : Prop :=
  ∀ (Ss : List VP) (f : Nat → Mem), Dr E P l Γ Ms n1 Ss → (∀ t S, look Θ t = some S → ∃ (j : Nat) (o : Oper), j < n1 ∧ l[j]? = some o ∧ o.dst = some t ∧ Ss[j]? = some S) → f 0 = M → f m = Mc → (∀ j, j ≤ m → Ms.Sublist (f j)) →
    (∀ j, j < m → MidAt E P l Γ Ss n1 j (f j) (f (j + 1))) → Tri E P (.region id l.toArray true) Γ M Q
theorem DrH.mid {id n : Nat} {l : List Oper} {Θ : Ctx} {Ms : Mem} (hs : Ms.Sublist M) (k : DrM E P id l Γ M Ms Q n Θ 0 M) : DrH E P id l Γ M Ms Q n Θ := by
  intro Ss hD hΘ
  refine k Ss (fun _ => M) hD hΘ rfl rfl (fun j hj => hs) (fun j hj => absurd hj (by omega))
def chainB (l : List Oper) (n1 m : Nat) : Bool := (List.range m).all fun j => (((masks l [])[n1 + m]?).getD 0).testBit (n1 + j)
theorem DrM.st {id n1 m : Nat} {l : List Oper} {Θ : Ctx} {o : Oper} {Ms Mc M' : Mem} (ts : List Nat) (h1 : l[n1 + m]? = some o) (h2 : o.dst = none) (h4 : behindB l (n1 + m) ts = true) (hc : chainB l n1 m = true)
    (h5 : StS E P (keepc ts Θ ++ Γ) Mc o M') (hs : Ms.Sublist M') (k : DrM E P id l Γ M Ms Q n1 Θ (m + 1) M') : DrM E P id l Γ M Ms Q n1 Θ m Mc := by
  intro Ss f hD hΘ hf0 hfm hsub hmid
  refine k Ss (fun j => if j = m + 1 then M' else f j) hD hΘ (by simp [hf0]) (by simp) (fun j hj => ?_) (fun j hj => ?_)
  · show Ms.Sublist (if j = m + 1 then M' else f j)
    split
    · exact hs
    · exact hsub j (by omega)
  · show MidAt E P l Γ Ss n1 j (if j = m + 1 then M' else f j) (if j + 1 = m + 1 then M' else f (j + 1))
    rw [if_neg (by omega)]
    by_cases e : j = m
    · subst e
      rw [if_pos rfl, hfm]
      refine ⟨o, _, h1, h2, fun t S' ht => ?_, fun i hi => ?_, h5⟩
      · rw [look_append] at ht
        cases hl : look (keepc ts Θ) t with
        | none => rw [hl] at ht; exact .inr (by simpa using ht)
        | some S'' =>
          rw [hl] at ht
          obtain rfl : S'' = S' := by simpa using ht
          obtain ⟨hm, hl2⟩ := look_keepc _ _ _ hl
          obtain ⟨i, oj, b0, b1, b2, b3⟩ := hΘ t S'' hl2
          refine .inl ⟨i, oj, ?_, b1, b2, b3⟩
          have := List.all_eq_true.1 h4 i (by simp; omega)
          rw [b1] at this
          simp only [Option.bind_some, b2, Bool.or_eq_true] at this
          rcases this with h | h
          · exact h
          · have := List.all_eq_true.1 h t hm
            simp [Nat.beq_refl] at this
      · exact List.all_eq_true.1 hc i (by simpa using hi)
    · rw [if_neg (by omega)]
      exact hmid j (by omega)
theorem DrM.fin {id n1 m n : Nat} {l : List Oper} {Θ : Ctx} {Ms Mc : Mem} (hm : P.follows .mixedOrders = true) (hn : n = n1 + m) (hap : apartB l n1 Γ = true) (htl : tailB l n = true) (hnl : Nat.ble n l.length = true)
    (k : Ops E P l.toArray Q (l.drop n) (Θ ++ Γ) Mc) : DrM E P id l Γ M Ms Q n1 Θ m Mc := by
  intro Ss f hD hΘ hf0 hfm hsub hmid
  subst hn
  have hnl' := Nat.le_of_ble_eq_true hnl
  have hk : Ops E P l.toArray Q (l.drop (n1 + m)) (dctx (l.take n1) Ss ++ Γ) (f m) := by
    rw [hfm]
    refine fun a w F s => k a w F (s.wider fun t S ht => ?_)
    rw [look_append] at ht
    cases hl : look Θ t with
    | none =>
      rw [hl] at ht
      have ht' : look Γ t = some S := by simpa using ht
      have hno : look (dctx (l.take n1) Ss) t = none := by
        cases hd : look (dctx (l.take n1) Ss) t with
        | none => rfl
        | some S' =>
          obtain ⟨j, o, b1, b2, b3⟩ := look_dctx _ _ _ _ hd
          have hj : j < n1 := by
            rcases Nat.lt_or_ge j n1 with h' | h'
            · exact h'
            · rw [List.getElem?_eq_none (by simp; omega)] at b1; cases b1
          rw [List.getElem?_take_of_lt hj] at b1
          have h1 := List.all_eq_true.1 hap j (by simpa using hj)
          rw [b1] at h1
          simp only [Option.bind_some, b2, Bool.and_eq_true] at h1
          exact absurd rfl (look_none h1.1 t S ht')
      exact s.slots t S (by rw [look_append, hno]; simpa using ht')
    | some S' =>
      rw [hl] at ht
      obtain rfl : S' = S := by simpa using ht
      obtain ⟨j, o, b0, b1, b2, b3⟩ := hΘ t S' hl
      have hex : ∀ (l' : List Oper) (Ss' : List VP) (j : Nat), (l'[j]?).bind (·.dst) = some t → Ss'[j]? = some S' → (∀ j', j' ≠ j → (l'[j']?).bind (·.dst) ≠ some t) → look (dctx l' Ss') t = some S' := by
        intro l'
        induction l' with
        | nil => intro Ss' j h; simp at h
        | cons o' l' ih =>
          intro Ss' j h1 h2 h3
          cases Ss' with
          | nil => simp at h2
          | cons T Ss' =>
            cases j with
            | zero =>
              simp at h1 h2
              subst h2
              simp [dctx, h1, look]
            | succ j =>
              have hrec := ih Ss' j (by simpa using h1) (by simpa using h2) (fun j' hj' => by simpa using h3 (j' + 1) (by omega))
              have h0 := h3 0 (by omega)
              simp at h0
              simp only [dctx]
              cases hd : o'.dst with
              | none => exact hrec
              | some d' =>
                simp only [look]
                have hne : Nat.beq d' t = false := by
                  cases hb : Nat.beq d' t with
                  | false => rfl
                  | true => exact absurd (by rw [hd, Nat.eq_of_beq_eq_true hb]) h0
                rw [hne]; exact hrec
      have hlk := hex (l.take n1) Ss j (by rw [List.getElem?_take_of_lt b0, b1]; exact b2) b3 (fun j' hj' he => by
        have hj'n : j' < n1 := by
          rcases Nat.lt_or_ge j' n1 with h' | h'
          · exact h'
          · rw [List.getElem?_eq_none (by simp; omega)] at he; simp at he
        rw [List.getElem?_take_of_lt hj'n] at he
        have h1 := List.all_eq_true.1 hap j (by simpa using b0)
        rw [b1] at h1
        simp only [Option.bind_some, b2, Bool.and_eq_true] at h1
        have h2 := List.all_eq_true.1 h1.2 j' (by simpa using hj'n)
        rw [he] at h2
        simp only [Bool.or_eq_true, Bool.not_eq_true'] at h2
        rcases h2 with h2 | h2
        · exact hj' (Nat.eq_of_beq_eq_true h2).symm
        · exact Nat.ne_of_beq_eq_false h2 rfl)
      exact s.slots t S' (by rw [look_append, hlk]; rfl)
  intro a w F s
  refine wp_region_any hm ?_
  have s1 := s.adv (Adv.drew w F)
  refine phaseC hD hsub hmid hap htl hnl' hk _ _ a _ F 0 (Nat.zero_le _) ?_ (by simp) (fun j hj hjl => ?_) (fun j h1 h2 => absurd h2 (by omega)) ?_ (hf0 ▸ s1) ?_
  · simp
    exact Nat.le_trans List.countP_le_length (by simp)
  · have : j < l.length := hjl
    simp [this]
  · intro i o hi hL
    simp [Array.getD_eq_getD_getElem?, Array.getElem?_replicate] at hL
    split at hL <;> simp at hL
  · intro j o d S hL
    simp [Array.getD_eq_getD_getElem?, Array.getElem?_replicate] at hL
    split at hL <;> simp at hL
end
end Go.En
/- Drawn regions in which new blocks are made and filled beside what only reads. -/
namespace Go.En
open Go.RowKit
set_option linter.unusedVariables false
section
variable {E : Env} {P : Program} {Γ : Ctx} {M : Mem} {ty : TypeId} {pos : String} {after : Array Edge} {gd : Option (Nat × Bool)} {d : Option Tmp}
  {ops : Array Oper} {Q : Exit → Act → World → Prop} {rest : List Oper}
/-- a place that points to a block, once it is made -/
def isOP (o : Option Nat) : VP := .pure fun v => ∀ b, o = some b → v = .pointer (some ⟨b, 0, none⟩)
def gctx : List Nat → List (Option Nat) → Ctx
  | d :: ds, o :: B => (d, isOP o) :: gctx ds B
  | _, _ => []
def gmem : List MP → List (Option Nat) → Mem
  | C :: Cs, o :: B => (o, C) :: gmem Cs B
  | _, _ => []
theorem Has.op {t b : Nat} (h : look Γ t = some (isOP (some b))) : Has E Γ M (.tmp t) (isPtr b 0) := fun a w F s => s.slots t _ h b rfl
theorem look_gctx_at : ∀ (ds : List Nat) (B : List (Option Nat)) (t : Nat) (S : VP), look (gctx ds B) t = some S → ∃ (j : Nat) (o : Option Nat), ds[j]? = some t ∧ B[j]? = some o ∧ S = isOP o
  | [], B, t, S, h => by simp [gctx, look] at h
  | d :: ds, [], t, S, h => by simp [gctx, look] at h
  | d :: ds, o :: B, t, S, h => by
    simp only [gctx, look] at h
    cases hb : Nat.beq d t with
    | true => rw [hb] at h; simp at h; exact ⟨0, o, by simp [Nat.eq_of_beq_eq_true hb], rfl, h.symm⟩
    | false => rw [hb] at h; obtain ⟨j, o', h1, h2, h3⟩ := look_gctx_at ds B t S h; exact ⟨j + 1, o', by simpa using h1, by simpa using h2, h3⟩
theorem look_gctx (ds : List Nat) (B : List (Option Nat)) (t : Nat) (S : VP) (h : look (gctx ds B) t = some S) : ∃ j : Nat, ds[j]? = some t := by
  obtain ⟨j, o, h1, _⟩ := look_gctx_at ds B t S h; exact ⟨j, h1⟩
theorem look_gctx_set : ∀ (ds : List Nat) (B : List (Option Nat)) (j b : Nat) (t : Nat) (S : VP), look (gctx ds (B.set j (some b))) t = some S → (ds[j]? = some t ∧ S = isOP (some b)) ∨ look (gctx ds B) t = some S
  | [], B, j, b, t, S, h => by simp [gctx, look] at h
  | d :: ds, [], j, b, t, S, h => by simp [gctx, look] at h
  | d :: ds, o :: B, 0, b, t, S, h => by
    simp only [List.set_cons_zero, gctx, look] at h ⊢
    cases hb : Nat.beq d t with
    | true => rw [hb] at h; simp at h; exact .inl ⟨by simp [Nat.eq_of_beq_eq_true hb], h.symm⟩
    | false => rw [hb] at h; exact .inr h
  | d :: ds, o :: B, j + 1, b, t, S, h => by
    simp only [List.set_cons_succ, gctx, look] at h ⊢
    cases hb : Nat.beq d t with
    | true => rw [hb] at h; exact .inr h
    | false =>
      rw [hb] at h
      rcases look_gctx_set ds B j b t S h with h1 | h1
      · exact .inl ⟨by simpa using h1.1, h1.2⟩
      · exact .inr h1
theorem gmem_set : ∀ (Cs : List MP) (B : List (Option Nat)) (q b : Nat) {n : Nat} {M : Mem} {C : MP}, B.length = n → Cs.length = n → Cs[q]? = some C → q < n → (gmem Cs B ++ M).set q (some b, C) = gmem Cs (B.set q (some b)) ++ M
  | [], B, q, b, n, M, C, h1, h2, h3, h4 => by simp at h3
  | C0 :: Cs, [], q, b, n, M, C, h1, h2, h3, h4 => by simp at h1; omega
  | C0 :: Cs, o :: B, 0, b, n, M, C, h1, h2, h3, h4 => by simp at h3; subst h3; rfl
  | C0 :: Cs, o :: B, q + 1, b, n, M, C, h1, h2, h3, h4 => by
    obtain ⟨n, rfl⟩ : ∃ k, n = k + 1 := ⟨n - 1, by omega⟩
    have := gmem_set Cs B q b (n := n) (M := M) (C := C) (by simpa using h1) (by simpa using h2) (by simpa using h3) (by omega)
    simp only [gmem, List.cons_append, List.set_cons_succ, this]
theorem all_some : ∀ {B : List (Option Nat)}, (∀ (j : Nat) (o : Option Nat), B[j]? = some o → o ≠ none) → ∃ bs : List Nat, bs.length = B.length ∧ B = bs.map some
  | [], _ => ⟨[], rfl, rfl⟩
  | none :: B, h => absurd rfl (h 0 none rfl)
  | some b :: B, h => by
    obtain ⟨bs, h1, h2⟩ := all_some (B := B) fun j o hj => h (j + 1) o (by simpa using hj)
    exact ⟨b :: bs, by simp [h1], by rw [h2]; rfl⟩
/-- a block that is made: where, and that it is as it was made until it is stored into -/
structure AlAt (E : Env) (P : Program) (l : List Oper) (n0 n1 k : Nat) (ds : List Nat) (Cs : Nat → List MP) (j : Nat) : Prop where
  full : ∃ (d : Nat) (T : TypeId) (z : Value) (Zs : List VP) (ty : TypeId) (pos : String) (after : Array Edge), ds[j]? = some d ∧ l[n0 + j]? = some ⟨some d, .alloc T, ty, pos, after, none⟩ ∧ d < E.n ∧ zeroB P T = some z ∧ (∀ w F, All2 Zs w F z.cells.toList) ∧
    ∀ m, m ≤ k → (Cs m)[j]? = some (cellM Zs) ∨ ∃ m', m' < m ∧ (((masks l [])[n1 + m']?).getD 0).testBit (n0 + j) = true
theorem AlAt.ex {l : List Oper} {n0 n1 k : Nat} {ds : List Nat} {Cs : Nat → List MP} {j : Nat} (h : AlAt E P l n0 n1 k ds Cs j) : ∃ (d : Nat) (T : TypeId) (z : Value) (ty : TypeId) (pos : String) (after : Array Edge), ds[j]? = some d ∧ l[n0 + j]? = some ⟨some d, .alloc T, ty, pos, after, none⟩ ∧ True := by
  obtain ⟨d, T, z, Zs, ty, pos, after, q1, q2, _⟩ := h.full; exact ⟨d, T, z, ty, pos, after, q1, q2, trivial⟩
/-- a store of the row of stores: what it stands behind, and the new blocks that it needs -/
structure MidD (E : Env) (P : Program) (l : List Oper) (Γ : Ctx) (Ss : List VP) (n1 : Nat) (ds : List Nat) (m : Nat) (Cs : List MP) (M : Mem) (Cs' : List MP) (M' : Mem) : Prop where
  ex : ∃ (o : Oper) (Δ : Ctx) (req : List Nat), l[n1 + m]? = some o ∧ o.dst = none ∧
    (∀ t S, look Δ t = some S → (∃ (j : Nat) (oj : Oper), (((masks l [])[n1 + m]?).getD 0).testBit j = true ∧ l[j]? = some oj ∧ oj.dst = some t ∧ Ss[j]? = some S) ∨ look Γ t = some S) ∧
    (∀ j, j < m → (((masks l [])[n1 + m]?).getD 0).testBit (n1 + j) = true) ∧ (∀ j ∈ req, j < ds.length ∧ (((masks l [])[n1 + m]?).getD 0).testBit (n1 - ds.length + j) = true) ∧
    ∀ B : List (Option Nat), B.length = ds.length → (∀ j ∈ req, ∃ b, B[j]? = some (some b)) → StS E P (Δ ++ gctx ds B) (gmem Cs B ++ M) o (gmem Cs' B ++ M')
theorem phaseD {l : List Oper} {n0 n1 k : Nat} {Ss : List VP} {Ms : Mem} {ds : List Nat} {Cs : Nat → List MP} {f : Nat → Mem} (hn1 : n1 = n0 + ds.length) (hD : Dr E P l Γ Ms n0 Ss) (hsub : ∀ m, m ≤ k → Ms.Sublist (f m)) (hmid : ∀ m, m < k → MidD E P l Γ Ss n1 ds m (Cs m) (f m) (Cs (m + 1)) (f (m + 1)))
    (hCl : ∀ m, m ≤ k → (Cs m).length = ds.length) (hal : ∀ j, j < ds.length → AlAt E P l n0 n1 k ds Cs j)
    (hap : apartB l n1 Γ = true) (htl : tailB l (n1 + k) = true) (hnl : n1 + k ≤ l.length) (kk : ∀ bs : List Nat, bs.length = ds.length → Ops E P l.toArray Q (l.drop (n1 + k)) (dctx (l.take n0) Ss ++ (gctx ds (bs.map some) ++ Γ)) (gmem (Cs k) (bs.map some) ++ f k)) :
    ∀ (fuel : Nat) (listed : Array Bool) (a : Act) (w : World) (F : Blk) (m : Nat) (B : List (Option Nat)), m ≤ k → B.length = ds.length → (∀ j o, B[j]? = some o → (o = none ↔ listed.getD (n0 + j) false = false)) → listed.toList.countP (· == false) ≤ fuel → listed.size = l.length →
    (∀ j, n1 + m ≤ j → j < l.length → listed.getD j true = false) → (∀ j, n1 ≤ j → j < n1 + m → listed.getD j true = true) → Closed l (fun j => listed.getD j false = true) → Sat E (gctx ds B ++ Γ) (gmem (Cs m) B ++ f m) a w F → Done l Ss (fun j => listed.getD j false = true) a w F →
    wpAny P .any l.toArray Q fuel listed a w := by
  obtain ⟨hlen, hat⟩ := hD.at
  have hsp := tailB_spec htl
  have gd : ∀ (listed : Array Bool) j, j < listed.size → listed.getD j true = listed.getD j false := fun listed j hj => by simp [hj]
  have hapart : ∀ i d, i < n1 → (l[i]?).bind (·.dst) = some d → (∀ t S, look Γ t = some S → t ≠ d) ∧ ∀ j e, j < n1 → j ≠ i → (l[j]?).bind (·.dst) = some e → e ≠ d := by
    intro i d hi hd
    unfold apartB at hap
    rw [List.all_eq_true] at hap
    have h1 := hap i (by simpa using hi)
    rw [hd] at h1
    simp only [Bool.and_eq_true] at h1
    refine ⟨look_none h1.1, fun j e hj hne he => ?_⟩
    have h2 := List.all_eq_true.1 h1.2 j (by simpa using hj)
    rw [he] at h2
    simp only [Bool.or_eq_true, Bool.not_eq_true'] at h2
    rcases h2 with h2 | h2
    · exact absurd (Nat.eq_of_beq_eq_true h2).symm hne
    · exact fun e' => Nat.ne_of_beq_eq_false h2 e'.symm
  have hend : ∀ (fuel : Nat) (listed : Array Bool) (a : Act) (w : World) (F : Blk) (m : Nat) (B : List (Option Nat)), m ≤ k → B.length = ds.length → (∀ j o, B[j]? = some o → (o = none ↔ listed.getD (n0 + j) false = false)) → listed.toList.countP (· == false) ≤ fuel → listed.size = l.length →
      (∀ j, n1 + m ≤ j → j < l.length → listed.getD j true = false) → Closed l (fun j => listed.getD j false = true) → Sat E (gctx ds B ++ Γ) (gmem (Cs m) B ++ f m) a w F → Done l Ss (fun j => listed.getD j false = true) a w F →
      (∀ j, j < n1 + k → j < l.length → listed.getD j true = true) → wpAny P .any l.toArray Q fuel listed a w := by
    intro fuel listed a w F m B hm hBl hB hcnt hsz htail hc s hdone hall
    obtain rfl : m = k := by
      rcases Nat.lt_or_ge m k with h | h
      · have h1 := htail (n1 + m) (Nat.le_refl _) (by omega)
        have h2 := hall (n1 + m) (by omega) (by omega)
        rw [h1] at h2; cases h2
      · omega
    have hge := count_ge hsz htail
    obtain ⟨bs, hbl, hbe⟩ := all_some (B := B) (fun j o hj => by
      intro e
      have hjl : j < ds.length := by
        rcases Nat.lt_or_ge j B.length with h | h
        · omega
        · rw [List.getElem?_eq_none h] at hj; cases hj
      have h1 := (hB j o hj).1 e
      have h2 := hall (n0 + j) (by omega) (by omega)
      rw [gd listed (n0 + j) (by omega), h1] at h2; cases h2)
    subst hbe
    refine phaseB htl fuel (n1 + m) listed a w (Nat.le_refl _) (by omega) hsz hall htail hc (kk bs (by simpa using hBl) a w F (s.wider ?_))
    intro t S ht
    rw [look_append] at ht
    cases hl : look (dctx (l.take n0) Ss) t with
    | none => rw [hl] at ht; exact s.slots t S (by simpa using ht)
    | some S' =>
      rw [hl] at ht
      obtain rfl : S' = S := by simpa using ht
      obtain ⟨j, o, h1, h2, h3⟩ := look_dctx _ _ _ _ hl
      have hj : j < n0 := by
        rcases Nat.lt_or_ge j n0 with h' | h'
        · exact h'
        · rw [List.getElem?_eq_none (by omega)] at h3; cases h3
      rw [List.getElem?_take_of_lt hj] at h1
      exact hdone j o t S' (by have h4 := hall j (by omega) (by omega); rw [gd listed j (by omega)] at h4; exact h4) h1 h2 h3
  intro fuel
  induction fuel with
  | zero =>
    intro listed a w F m B hm hBl hB hcnt hsz htail hmids hc s hdone
    refine hend 0 listed a w F m B hm hBl hB hcnt hsz htail hc s hdone fun j hj hjl => ?_
    have hlt : j < listed.size := by omega
    have h0 : listed.toList.countP (· == false) = 0 := by omega
    rw [List.countP_eq_zero] at h0
    have := h0 listed[j] (by simp)
    simp [hlt]
    simpa using this
  | succ fuel ih =>
    intro listed a w F m B hm hBl hB hcnt hsz htail hmids hc s hdone
    by_cases hall : ∀ j, j < n1 + k → j < l.length → listed.getD j true = true
    · exact hend _ listed a w F m B hm hBl hB hcnt hsz htail hc s hdone hall
    · have hex : ∃ j, j < n1 + k ∧ listed.getD j true = false := by
        refine Classical.byContradiction fun hno => hall fun j hj _ => ?_
        cases hb : listed.getD j true with
        | true => rfl
        | false => exact absurd ⟨j, hj, hb⟩ hno
      refine ⟨fun hr => ?_, fun i hi => ?_⟩
      · obtain ⟨j, ⟨hj1, hj2⟩, hmin⟩ := exists_least hex
        have : j ∈ Region.ready .any l.toArray listed := by
          rw [mem_ready]
          have hjl : j < l.length := by omega
          refine ⟨hj2, l[j], by simp [hjl], fun e he hb => ?_⟩
          have hlt := hsp.1 j _ (List.getElem?_eq_getElem hjl) e he hb
          cases hbb : listed.getD e.on true with
          | true => rw [gd listed e.on (by omega)] at hbb; exact hbb
          | false => have := hmin e.on ⟨by omega, hbb⟩; omega
        rw [hr] at this; simp at this
      · have hi' := hi
        rw [mem_ready] at hi
        obtain ⟨g1, o, g2, g3⟩ := hi
        have g2' : l[i]? = some o := by simpa using g2
        have hil : i < l.length := by
          rcases Nat.lt_or_ge i l.length with h' | h'
          · exact h'
          · rw [List.getElem?_eq_none h'] at g2'; cases g2'
        have hin : i < n1 + k := by
          rcases Nat.lt_or_ge i (n1 + k) with h' | h'
          · exact h'
          · obtain ⟨j, hj1, hj2⟩ := hex
            obtain ⟨q, hq, hb⟩ := hsp.2 i hil h' j (by omega)
            have := reach hc i o g2' g3 j q hq hb
            have e : listed.getD j false = true := this
            rw [← gd listed j (by omega), hj2] at e; cases e
        have hmask : i < (masks l []).length := by rw [masks_len]; simpa using hil
        have hcount : (listed.setIfInBounds i true).toList.countP (· == false) ≤ fuel := by
          have hlt : i < listed.toList.length := by simp; omega
          have hli : listed.toList[i] = false := by
            have : i < listed.size := by omega
            simp [this] at g1; simpa using g1
          rw [Array.toList_setIfInBounds, List.countP_set hlt]
          rw [hli]
          have hpos : 0 < listed.toList.countP (· == false) := List.countP_pos_iff.2 ⟨false, by rw [← hli]; exact List.getElem_mem _, rfl⟩
          simp only [beq_self_eq_true, if_true]
          show _ - 1 + 0 ≤ fuel
          omega
        have hclosed : Closed l (fun j => (listed.setIfInBounds i true).getD j false = true) := by
          intro j oj hj hL e he hb
          by_cases ek : j = i
          · subst ek
            rw [g2'] at hj; obtain rfl := Option.some.inj hj
            exact getD_set_true (g3 e he hb)
          · exact getD_set_true (hc j oj hj (by
              have hL' : (listed.setIfInBounds i true).getD j false = true := hL
              rwa [getD_set_ne false (fun h => ek h.symm)] at hL') e he hb)
        have hΓs : ∀ t S, look Γ t = some S → S.h w F (a.tmps.getD t undef) := fun t S ht => by
          refine s.slots t S ?_
          rw [look_append]
          cases hl : look (gctx ds B) t with
          | none => simpa using ht
          | some S' =>
            obtain ⟨j, hj⟩ := look_gctx _ _ _ _ hl
            obtain ⟨ap1, _⟩ := hapart (n0 + j) t (by
              rcases Nat.lt_or_ge j ds.length with h | h
              · omega
              · rw [List.getElem?_eq_none h] at hj; cases hj) (by
              have hjl : j < ds.length := by
                rcases Nat.lt_or_ge j ds.length with h | h
                · exact h
                · rw [List.getElem?_eq_none h] at hj; cases hj
              obtain ⟨d, T, z, ty, pos, after, q1, q2, _⟩ := (hal j hjl).ex
              rw [q2]; rw [hj] at q1; obtain rfl := Option.some.inj q1; rfl)
            exact absurd rfl (ap1 t S ht)
        have hctx : ∀ Δ : Ctx, (∀ t S, look Δ t = some S → (∃ (j : Nat) (oj : Oper), (((masks l [])[i]?).getD 0).testBit j = true ∧ l[j]? = some oj ∧ oj.dst = some t ∧ Ss[j]? = some S) ∨ look Γ t = some S) →
            ∀ t S, look Δ t = some S → S.h w F (a.tmps.getD t undef) := by
          intro Δ a6 t S' ht
          rcases a6 t S' ht with ⟨j, oj, b0, b1, b2, b3⟩ | h
          · rw [List.getElem?_eq_getElem hmask] at b0
            exact hdone j oj t S' (reach hc i o g2' g3 j _ (List.getElem?_eq_getElem hmask) (by simpa using b0)) b1 b2 b3
          · exact hΓs t S' h
        have ho : l.toArray[i]? = some o := by simpa using g2'
        have hBset : ∀ (i' : Nat), i' = i → (∀ j, j < ds.length → n0 + j ≠ i') → ∀ j o, B[j]? = some o → (o = none ↔ (listed.setIfInBounds i true).getD (n0 + j) false = false) := by
          intro i' hi' hne j o' hj
          subst hi'
          have hjl : j < ds.length := by
            rcases Nat.lt_or_ge j B.length with h | h
            · omega
            · rw [List.getElem?_eq_none h] at hj; cases hj
          rw [getD_set_ne false (fun e => hne j hjl e.symm)]
          exact hB j o' hj
        rcases Nat.lt_or_ge i n0 with hin1 | hin1
        · obtain ⟨o', d, S, Δ, a1, a2, a3, a4, a6, a7⟩ := hat i hin1
          rw [g2'] at a1; obtain rfl := Option.some.inj a1
          have hbind : (l[i]?).bind (·.dst) = some d := by rw [g2']; exact a2
          obtain ⟨ap1, ap2⟩ := hapart i d (by omega) hbind
          have ap3 : ∀ t S, look (gctx ds B ++ Γ) t = some S → t ≠ d := fun t S ht => by
            rw [look_append] at ht
            cases hl : look (gctx ds B) t with
            | none => rw [hl] at ht; exact ap1 t S (by simpa using ht)
            | some S' =>
              obtain ⟨j, hj⟩ := look_gctx _ _ _ _ hl
              have hjl : j < ds.length := by
                rcases Nat.lt_or_ge j ds.length with h | h
                · exact h
                · rw [List.getElem?_eq_none h] at hj; cases hj
              obtain ⟨d', T, z, ty, pos, after, q1, q2, _⟩ := (hal j hjl).ex
              rw [hj] at q1; obtain rfl := Option.some.inj q1
              exact ap2 (n0 + j) t (by omega) (by omega) (by rw [q2]; rfl)
          have hsat : Sat E Δ Ms a w F := (s.wider (hctx Δ a6)).sub ((hsub m hm).trans (List.sublist_append_right _ _))
          have hstep := a7 a w F hsat (wpAny P .any l.toArray Q fuel (listed.setIfInBounds i true)) Q
          have hgo : ∀ v w' F', Adv w F w' F' → S.h w' F' v → wpAny P .any l.toArray Q fuel (listed.setIfInBounds i true) (a.put o.dst v) w' := by
            intro v w' F' ad hv
            rw [a2]
            have s1 := s.adv ad
            refine ih _ _ w' F' m B hm hBl (hBset i rfl (fun j _ => by omega)) hcount (by simp [hsz]) (fun j hj hjl => ?_) (fun j h1 h2 => ?_) hclosed (s1.putOut a3 v ap3) ?_
            · rw [getD_set_ne true (by omega)]; exact htail j hj hjl
            · rw [getD_set_ne true (by omega)]; exact hmids j h1 h2
            · intro j oj dj Sj hL hj hdj hSj
              rw [getD_put (by rw [s1.size]; exact a3)]
              by_cases ek : j = i
              · subst ek
                rw [g2'] at hj; obtain rfl := Option.some.inj hj
                rw [a2] at hdj; obtain rfl := Option.some.inj hdj
                rw [a4] at hSj; obtain rfl := Option.some.inj hSj
                rw [if_pos rfl]; exact hv
              · have hjn : j < n0 := by
                  rcases Nat.lt_or_ge j n0 with h' | h'
                  · exact h'
                  · rw [List.getElem?_eq_none (by omega)] at hSj; cases hSj
                have hne := ap2 j dj (by omega) ek (by rw [hj]; exact hdj)
                rw [if_neg (fun e => hne e.symm)]
                refine Sj.mono _ _ _ _ _ (hdone j oj dj Sj ?_ hj hdj hSj) (ad.same s.flt) ad.sub
                have hL' : (listed.setIfInBounds i true).getD j false = true := hL
                rwa [getD_set_ne false (fun h => ek h.symm)] at hL'
          have hres := hstep hgo
          unfold wpOp
          rw [ho]
          exact hres
        · rcases Nat.lt_or_ge i n1 with hin2 | hin2
          · -- a new block
            obtain ⟨q, rfl⟩ : ∃ q, i = n0 + q := ⟨i - n0, by omega⟩
            have hql : q < ds.length := by omega
            obtain ⟨d, T, z, Zs, ty, pos, after, q1, q2, q3, q4, q5, q6⟩ := (hal q hql).full
            rw [g2'] at q2; obtain rfl := Option.some.inj q2
            obtain ⟨ap1, ap2⟩ := hapart (n0 + q) d (by omega) (by rw [g2']; rfl)
            have hBq : B[q]? = some none := by
              have hlt : q < B.length := by omega
              have h1 := (hB q B[q] (List.getElem?_eq_getElem hlt)).2 (by rw [← gd listed (n0 + q) (by omega)]; exact g1)
              rw [List.getElem?_eq_getElem hlt, h1]
            have hCq : (Cs m)[q]? = some (cellM Zs) := by
              rcases q6 m hm with h | ⟨m', hm', hb⟩
              · exact h
              · have hml : n1 + m' < l.length := by omega
                have hL : listed.getD (n1 + m') false = true := by rw [← gd listed (n1 + m') (by omega)]; exact hmids _ (by omega) (by omega)
                have hmk2 : n1 + m' < (masks l []).length := by rw [masks_len]; simpa using hml
                rw [List.getElem?_eq_getElem hmk2] at hb
                have := reach hc (n1 + m') _ (List.getElem?_eq_getElem hml) (fun e he hb' => hc (n1 + m') _ (List.getElem?_eq_getElem hml) hL e he hb') (n0 + q) _ (List.getElem?_eq_getElem hmk2) (by simpa using hb)
                have e : listed.getD (n0 + q) false = true := this
                rw [← gd listed (n0 + q) (by omega), g1] at e; cases e
            unfold wpOp
            rw [ho]
            show if Region.wanted _ (yielded l.toArray a.tmps) then _ else _
            rw [if_pos (by simp [Region.wanted])]
            refine .inl ?_
            unfold Oper.wp
            have hr : (execOp a.eval (⟨some d, .alloc T, ty, pos, after, none⟩ : Oper)).run P w = .ok (.value (.pointer (some ⟨w.heap.size, 0, none⟩))) { w with heap := w.heap.push (.cells z.cells T) } := by
              have := run_zero (w := w) q4
              simp only [execOp, Instr.alloc, newVar, newRow, newObj, Sem.run_bind, this, Result.andThen_ok]
              simp [go_sem]; rfl
            rw [hr]
            show wpAny P .any l.toArray Q fuel (listed.setIfInBounds (n0 + q) true) (a.put (some d) _) _
            have ad : Adv w F { w with heap := w.heap.push (.cells z.cells T) } F := ⟨Keep.alloc _ _ _, fun _ h => h, fun _ h => .inl h⟩
            have s1 := (s.alloc (T := T) (q5 w F)).swap (i := q)
            have hM : (gmem (Cs m) B ++ f m).set q (some w.heap.size, cellM Zs) = gmem (Cs m) (B.set q (some w.heap.size)) ++ f m := gmem_set _ _ _ _ hBl (hCl m hm) hCq hql
            rw [hM] at s1
            refine ih _ _ _ F m (B.set q (some w.heap.size)) hm (by simp [hBl]) (fun j o' hj => ?_) hcount (by simp [hsz]) (fun j hj hjl => ?_) (fun j h1 h2 => ?_) hclosed ?_ ?_
            · by_cases e : j = q
              · subst e
                rw [List.getElem?_set_self (by omega)] at hj
                obtain rfl := Option.some.inj hj
                have : n0 + j < listed.size := by omega
                simp [this]
              · rw [List.getElem?_set_ne (fun h => e h.symm)] at hj
                rw [getD_set_ne false (by omega)]
                exact hB j o' hj
            · rw [getD_set_ne true (by omega)]; exact htail j hj hjl
            · rw [getD_set_ne true (by omega)]; exact hmids j h1 h2
            · have hsz2 : d < a.tmps.size := by rw [s1.size]; exact q3
              have hslots : ∀ t S, look (gctx ds (B.set q (some w.heap.size)) ++ Γ) t = some S → S.h { w with heap := w.heap.push (.cells z.cells T) } F ((a.put (some d) (.pointer (some ⟨w.heap.size, 0, none⟩))).tmps.getD t undef) := by
                intro t S ht
                rw [getD_put hsz2]
                rw [look_append] at ht
                cases hl : look (gctx ds (B.set q (some w.heap.size))) t with
                | none =>
                  rw [hl] at ht
                  have ht' : look Γ t = some S := by simpa using ht
                  rw [if_neg (fun e => ap1 t S ht' e.symm)]
                  exact S.mono _ _ _ _ _ (hΓs t S ht') (ad.same s.flt) ad.sub
                | some S' =>
                  rw [hl] at ht
                  obtain rfl : S' = S := by simpa using ht
                  rcases look_gctx_set _ _ _ _ _ _ hl with ⟨e1, e2⟩ | h
                  · rw [q1] at e1; obtain rfl := Option.some.inj e1
                    rw [if_pos rfl, e2]
                    intro b hb
                    obtain rfl := Option.some.inj hb; rfl
                  · by_cases e : d = t
                    · subst e
                      rw [if_pos rfl]
                      obtain ⟨j, o', h1, h2, h3⟩ := look_gctx_at _ _ _ _ h
                      have hjq : j = q := by
                        refine Classical.byContradiction fun hne => ?_
                        have hjl : j < ds.length := by
                          rcases Nat.lt_or_ge j ds.length with h | h
                          · exact h
                          · rw [List.getElem?_eq_none h] at h1; cases h1
                        obtain ⟨d', T', z', ty', pos', after', r1, r2, _⟩ := (hal j hjl).ex
                        rw [h1] at r1; obtain rfl := Option.some.inj r1
                        exact ap2 (n0 + j) d (by omega) (by omega) (by rw [r2]; rfl) rfl
                      subst hjq
                      rw [hBq] at h2; obtain rfl := Option.some.inj h2
                      rw [h3]
                      intro b hb; cases hb
                    · rw [if_neg e]
                      exact S'.mono _ _ _ _ _ (s.slots t S' (by rw [look_append, h]; rfl)) (ad.same s.flt) ad.sub
              exact { defers := s1.defers, size := by simp [Act.put, s1.size], keep := s1.keep, f0 := s1.f0, fnew := s1.fnew, flt := s1.flt, mem := s1.mem, slots := hslots }
            · intro j oj dj Sj hL hj hdj hSj
              have hjn : j < n0 := by
                rcases Nat.lt_or_ge j n0 with h' | h'
                · exact h'
                · rw [List.getElem?_eq_none (by omega)] at hSj; cases hSj
              have hne := ap2 j dj (by omega) (by omega) (by rw [hj]; exact hdj)
              rw [getD_put (by rw [s1.size]; exact q3), if_neg (fun e => hne e.symm)]
              refine Sj.mono _ _ _ _ _ (hdone j oj dj Sj ?_ hj hdj hSj) (ad.same s.flt) ad.sub
              have hL' : (listed.setIfInBounds (n0 + q) true).getD j false = true := hL
              rwa [getD_set_ne false (by omega)] at hL'
          -- a store: the next one of the row
          have him : n1 + m ≤ i := by
            rcases Nat.lt_or_ge i (n1 + m) with h | h
            · rw [hmids i hin2 h] at g1; cases g1
            · exact h
          have hieq : i = n1 + m := by
            rcases Nat.lt_or_ge (n1 + m) i with h | h
            · obtain ⟨o', Δ, req, b1, b2, b3, b4, b5⟩ := (hmid (i - n1) (by omega)).ex
              have hb := b4 m (by omega)
              rw [show n1 + (i - n1) = i by omega, List.getElem?_eq_getElem hmask] at hb
              have := reach hc i o g2' g3 (n1 + m) _ (List.getElem?_eq_getElem hmask) (by simpa using hb)
              have e : listed.getD (n1 + m) false = true := this
              rw [← gd listed (n1 + m) (by omega), htail (n1 + m) (Nat.le_refl _) (by omega)] at e; cases e
            · omega
          subst hieq
          have hmk : m < k := by omega
          obtain ⟨o', Δ, req, b1, b2, b3, b4, b7, b8⟩ := (hmid m hmk).ex
          rw [g2'] at b1; obtain rfl := Option.some.inj b1
          have hreq : ∀ j ∈ req, ∃ b, B[j]? = some (some b) := fun j hj => by
            obtain ⟨hjl, hb⟩ := b7 j hj
            rw [show n1 - ds.length + j = n0 + j by omega] at hb
            rw [List.getElem?_eq_getElem hmask] at hb
            have hL : listed.getD (n0 + j) false = true := reach hc (n1 + m) o g2' g3 (n0 + j) _ (List.getElem?_eq_getElem hmask) (by simpa using hb)
            have hlt : j < B.length := by omega
            cases hBj : B[j] with
            | none =>
              have := (hB j none (by rw [List.getElem?_eq_getElem hlt, hBj])).1 rfl
              rw [hL] at this; cases this
            | some b => exact ⟨b, by rw [List.getElem?_eq_getElem hlt, hBj]⟩
          obtain ⟨b5, b6⟩ := b8 B hBl hreq
          have hsat : Sat E (Δ ++ gctx ds B) (gmem (Cs m) B ++ f m) a w F := s.wider (fun t S ht => by
            rw [look_append] at ht
            cases hl : look Δ t with
            | some S' =>
              rw [hl] at ht
              obtain rfl : S' = S := by simpa using ht
              exact hctx Δ b3 t S' hl
            | none =>
              rw [hl] at ht
              have ht' : look (gctx ds B) t = some S := by simpa using ht
              exact s.slots t S (by rw [look_append, ht']; rfl))
          have hgo : ∀ w', (∀ b, F b → w'.heap[b]? = w.heap[b]?) → (∀ Γ'', Sat E Γ'' (gmem (Cs m) B ++ f m) a w F → Sat E Γ'' (gmem (Cs (m + 1)) B ++ f (m + 1)) a w' F) → wpAny P .any l.toArray Q fuel (listed.setIfInBounds (n1 + m) true) a w' := by
            intro w' hF hS
            refine ih _ _ w' F (m + 1) B hmk hBl (hBset _ rfl (fun j hj => by omega)) hcount (by simp [hsz]) (fun j hj hjl => ?_) (fun j h1 h2 => ?_) hclosed (hS _ s) ?_
            · rw [getD_set_ne true (by omega)]; exact htail j (by omega) hjl
            · by_cases e : j = n1 + m
              · subst e
                have : n1 + m < listed.size := by omega
                simp [this]
              · rw [getD_set_ne true (by omega)]; exact hmids j h1 (by omega)
            · intro j oj dj Sj hL hj hdj hSj
              have hjn : j < n0 := by
                rcases Nat.lt_or_ge j n0 with h' | h'
                · exact h'
                · rw [List.getElem?_eq_none (by omega)] at hSj; cases hSj
              refine Sj.mono _ _ _ _ _ (hdone j oj dj Sj ?_ hj hdj hSj) hF (fun _ h => h)
              have hL' : (listed.setIfInBounds (n1 + m) true).getD j false = true := hL
              rwa [getD_set_ne false (by omega)] at hL'
          unfold wpOp
          rw [ho]
          show if Region.wanted o (yielded l.toArray a.tmps) then _ else _
          rw [if_pos (by simp [Region.wanted, b5])]
          exact .inl (b6 a w F hsat _ Q hgo)
/-- the blocks that are made, one by one -/
inductive Als (E : Env) (P : Program) (l : List Oper) : Nat → List Nat → List (List VP) → Prop
  | nil {i : Nat} : Als E P l i [] []
  | cons {i d : Nat} {T : TypeId} {z : Value} {Zs : List VP} {ds : List Nat} {zs : List (List VP)} {ty : TypeId} {pos : String} {after : Array Edge} (h1 : l[i]? = some ⟨some d, .alloc T, ty, pos, after, none⟩) (h2 : Nat.blt d E.n = true)
      (h3 : zeroB P T = some z) (h4 : ∀ w F, All2 Zs w F z.cells.toList) (r : Als E P l (i + 1) ds zs) : Als E P l i (d :: ds) (Zs :: zs)
theorem Als.len {l : List Oper} : ∀ {i : Nat} {ds : List Nat} {zs : List (List VP)}, Als E P l i ds zs → zs.length = ds.length
  | _, _, _, .nil => rfl
  | _, _, _, .cons _ _ _ _ r => congrArg (· + 1) r.len
theorem Als.at {l : List Oper} : ∀ {i : Nat} {ds : List Nat} {zs : List (List VP)}, Als E P l i ds zs → ∀ q, q < ds.length → ∃ (d : Nat) (T : TypeId) (z : Value) (Zs : List VP) (ty : TypeId) (pos : String) (after : Array Edge), ds[q]? = some d ∧ l[i + q]? = some ⟨some d, .alloc T, ty, pos, after, none⟩ ∧ d < E.n ∧ zeroB P T = some z ∧ (∀ w F, All2 Zs w F z.cells.toList) ∧ zs[q]? = some Zs
  | _, _, _, .nil, q, h => by simp at h
  | i, _, _, .cons h1 h2 h3 h4 r, 0, _ => ⟨_, _, _, _, _, _, _, rfl, h1, by simpa [Nat.blt_eq] using h2, h3, h4, rfl⟩
  | i, _, _, .cons h1 h2 h3 h4 r, q + 1, h => by
    obtain ⟨d, T, z, Zs, ty, pos, after, a1, a2, a3, a4, a5, a6⟩ := r.at q (by simpa using h)
    exact ⟨d, T, z, Zs, ty, pos, after, by simpa using a1, by rw [show i + (q + 1) = i + 1 + q by omega]; exact a2, a3, a4, a5, by simpa using a6⟩
/-- the stores, one by one, beside blocks that are made -/
def DrN (E : Env) (P : Program) (id : Nat) (l : List Oper) (Γ : Ctx) (M Ms : Mem) (Q : Exit → Act → World → Prop) (n0 n1 : Nat) (ds : List Nat) (zs : List (List VP)) (Θ : Ctx) (m : Nat) (Cs : List MP) (Mc : Mem) : Prop :=
  ∀ (Ss : List VP) (CF : Nat → List MP) (f : Nat → Mem), Dr E P l Γ Ms n0 Ss → (∀ t S, look Θ t = some S → ∃ (j : Nat) (o : Oper), j < n0 ∧ l[j]? = some o ∧ o.dst = some t ∧ Ss[j]? = some S) → n1 = n0 + ds.length → Als E P l n0 ds zs →
    CF 0 = zs.map cellM → f 0 = M → CF m = Cs → f m = Mc → (∀ j, j ≤ m → Ms.Sublist (f j)) → (∀ j, j ≤ m → (CF j).length = ds.length) → (∀ j, j < m → MidD E P l Γ Ss n1 ds j (CF j) (f j) (CF (j + 1)) (f (j + 1))) →
    (∀ q, q < ds.length → ∀ j, j ≤ m → (CF j)[q]? = (zs.map cellM)[q]? ∨ ∃ m', m' < j ∧ (((masks l [])[n1 + m']?).getD 0).testBit (n0 + q) = true) → Tri E P (.region id l.toArray true) Γ M Q
theorem DrH.als {id n0 n1 : Nat} {l : List Oper} {Θ : Ctx} {Ms : Mem} {ds : List Nat} {zs : List (List VP)} {Cs : List MP} (hn : n1 = n0 + ds.length) (ha : Als E P l n0 ds zs) (hs : Ms.Sublist M) (hC : zs.map cellM = Cs) (k : DrN E P id l Γ M Ms Q n0 n1 ds zs Θ 0 Cs M) : DrH E P id l Γ M Ms Q n0 Θ := by
  intro Ss hD hΘ
  subst hC
  refine k Ss (fun _ => zs.map cellM) (fun _ => M) hD hΘ hn ha rfl rfl rfl rfl (fun j hj => hs) (fun j hj => by simp [ha.len]) (fun j hj => absurd hj (by omega)) (fun q hq j hj => .inl rfl)
theorem look_left {A B : Ctx} {t : Nat} {S : VP} (h : look A t = some S) : look (A ++ B) t = some S := by rw [look_append, h]; rfl
theorem Has.up {Δ X : Ctx} {M' : Mem} {y : Operand} {S : VP} (h : Has E Δ [] y S) : Has E (Δ ++ X) M' y S := fun a w F s => h a w F ((s.wider fun t S ht => s.slots t S (look_left ht)).sub (List.nil_sublist _))
theorem gmem_at : ∀ (Cs : List MP) (B : List (Option Nat)) (q : Nat) {o : Option Nat} {C : MP} {M : Mem}, B[q]? = some o → Cs[q]? = some C → (gmem Cs B ++ M)[q]? = some (o, C)
  | [], B, q, o, C, M, h1, h2 => by simp at h2
  | C0 :: Cs, [], q, o, C, M, h1, h2 => by simp at h1
  | C0 :: Cs, o0 :: B, 0, o, C, M, h1, h2 => by simp at h1 h2; subst h1; subst h2; rfl
  | C0 :: Cs, o0 :: B, q + 1, o, C, M, h1, h2 => by
    have := gmem_at Cs B q (M := M) (by simpa using h1) (by simpa using h2)
    simpa [gmem] using this
theorem gmem_setC : ∀ (Cs : List MP) (B : List (Option Nat)) (q : Nat) {o : Option Nat} {C : MP} {M : Mem}, B[q]? = some o → (gmem Cs B ++ M).set q (o, C) = gmem (Cs.set q C) B ++ M ∨ Cs.length ≤ q
  | [], B, q, o, C, M, h1 => .inr (by simp)
  | C0 :: Cs, [], q, o, C, M, h1 => by simp at h1
  | C0 :: Cs, o0 :: B, 0, o, C, M, h1 => by simp at h1; subst h1; exact .inl rfl
  | C0 :: Cs, o0 :: B, q + 1, o, C, M, h1 => by
    rcases gmem_setC Cs B q (C := C) (M := M) (by simpa using h1) with h | h
    · exact .inl (by simp only [gmem, List.cons_append, List.set_cons_succ, h])
    · exact .inr (by simpa using h)
theorem look_gctx_of : ∀ (ds : List Nat) (B : List (Option Nat)) (q d : Nat) (o : Option Nat), (∀ i, i < q → ds[i]? ≠ some d) → ds[q]? = some d → B[q]? = some o → look (gctx ds B) d = some (isOP o)
  | [], B, q, d, o, h0, h1, h2 => by simp at h1
  | e :: ds, [], q, d, o, h0, h1, h2 => by simp at h2
  | e :: ds, o' :: B, 0, d, o, h0, h1, h2 => by simp at h1 h2; subst h1; subst h2; simp [gctx, look, nbeq_self]
  | e :: ds, o' :: B, q + 1, d, o, h0, h1, h2 => by
    have hne : Nat.beq e d = false := by
      cases hb : Nat.beq e d with
      | false => rfl
      | true => exact absurd (by simp [Nat.eq_of_beq_eq_true hb]) (h0 0 (by omega))
    simp only [gctx, look, hne]
    exact look_gctx_of ds B q d o (fun i hi => by simpa using h0 (i + 1) (by omega)) (by simpa using h1) (by simpa using h2)
/-- a store into a block that is made in the region -/
theorem DrN.new {id n0 n1 m : Nat} {l : List Oper} {Θ : Ctx} {Ms Mc : Mem} {ds : List Nat} {zs : List (List VP)} {Cs Cs' : List MP} (ts : List Nat) (j : Nat) {dj n : Nat} {g : Bool} {T : TypeId} {y : Operand} {Ss0 Ss1 Ss' : List VP} {S : VP} [sh : Shape S Ss1] [o1 : Ones Ss1]
    (h1 : l[n1 + m]? = some ⟨none, .store T (.tmp dj) y, ty, pos, after, none⟩) (h4 : behindB l (n1 + m) ts = true) (hc : chainB l n1 m = true) (hdj : ds[j]? = some dj) (hfirst : ((List.range j).all fun i => !Nat.beq (ds.getD i 0) dj) = true) (hno : look (keepc ts Θ ++ Γ) dj = none)
    (hb : (((masks l [])[n1 + m]?).getD 0).testBit (n1 - ds.length + j) = true) (hC : Cs[j]? = some (cellM Ss0)) (hy : Has E (keepc ts Θ ++ Γ) [] y S) (hT : tyB P T = some (n, g)) (hn : Nat.beq Ss1.length n = true) (hl : Nat.ble (0 + n) Ss0.length = true)
    (hS : Ss0.take 0 ++ Ss1 ++ Ss0.drop (0 + n) = Ss') (hCs : Cs.set j (cellM Ss') = Cs') (k : DrN E P id l Γ M Ms Q n0 n1 ds zs Θ (m + 1) Cs' Mc) : DrN E P id l Γ M Ms Q n0 n1 ds zs Θ m Cs Mc := by
  intro Ss CF f hD hΘ hn1 hal hC0 hf0 hCm hfm hsub hlen hmid hq
  have hjl : j < ds.length := by
    rcases Nat.lt_or_ge j ds.length with h | h
    · exact h
    · rw [List.getElem?_eq_none h] at hdj; cases hdj
  have hCl : Cs.length = ds.length := by rw [← hCm]; exact hlen m (Nat.le_refl _)
  refine k Ss (fun i => if i = m + 1 then Cs' else CF i) (fun i => if i = m + 1 then Mc else f i) hD hΘ hn1 hal (by simp [hC0]) (by simp [hf0]) (by simp) (by simp) (fun i hi => ?_) (fun i hi => ?_) (fun i hi => ?_) (fun q hql i hi => ?_)
  · show Ms.Sublist (if i = m + 1 then Mc else f i)
    split
    · rw [← hfm]; exact hsub m (Nat.le_refl _)
    · exact hsub i (by omega)
  · show (if i = m + 1 then Cs' else CF i).length = _
    split
    · rw [← hCs, List.length_set, hCl]
    · exact hlen i (by omega)
  · show MidD E P l Γ Ss n1 ds i (if i = m + 1 then Cs' else CF i) (if i = m + 1 then Mc else f i) (if i + 1 = m + 1 then Cs' else CF (i + 1)) (if i + 1 = m + 1 then Mc else f (i + 1))
    rw [if_neg (by omega), if_neg (by omega)]
    by_cases e : i = m
    · subst e
      rw [if_pos rfl, if_pos rfl, hfm, hCm]
      refine ⟨_, keepc ts Θ ++ Γ, [j], h1, rfl, fun t S' ht => ?_, fun i' hi' => ?_, fun j' hj' => ?_, fun B hBl hreq => ?_⟩
      · rw [look_append] at ht
        cases hl2 : look (keepc ts Θ) t with
        | none => rw [hl2] at ht; exact .inr (by simpa using ht)
        | some S'' =>
          rw [hl2] at ht
          obtain rfl : S'' = S' := by simpa using ht
          obtain ⟨hm2, hl3⟩ := look_keepc _ _ _ hl2
          obtain ⟨i', oj, b0, b1, b2, b3⟩ := hΘ t S'' hl3
          refine .inl ⟨i', oj, ?_, b1, b2, b3⟩
          have := List.all_eq_true.1 h4 i' (by simp; omega)
          rw [b1] at this
          simp only [Option.bind_some, b2, Bool.or_eq_true] at this
          rcases this with h | h
          · exact h
          · have := List.all_eq_true.1 h t hm2
            simp [Nat.beq_refl] at this
      · exact List.all_eq_true.1 hc i' (by simpa using hi')
      · obtain rfl : j' = j := by simpa using hj'
        exact ⟨hjl, hb⟩
      · obtain ⟨b, hBj⟩ := hreq j (by simp)
        have hlk : look ((keepc ts Θ ++ Γ) ++ gctx ds B) dj = some (isOP (some b)) := by
          rw [look_append, hno]
          refine look_gctx_of ds B j dj (some b) (fun i' hi' e => ?_) hdj hBj
          have := List.all_eq_true.1 hfirst i' (by simpa using hi')
          rw [List.getD, e] at this
          simp [nbeq_self] at this
        refine StS.store (b := b) (off := 0) (i := j) (Ss := Ss0) (Ss' := Ss') (Has.op hlk) (Has.up hy) (gmem_at _ _ _ hBj hC) hT hn hl hS ?_
        rcases gmem_setC Cs B j (C := cellM Ss') (M := Mc) hBj with h | h
        · rw [h, hCs]
        · omega
    · rw [if_neg (by omega), if_neg (by omega)]
      exact hmid i (by omega)
  · show (if i = m + 1 then Cs' else CF i)[q]? = _ ∨ _
    by_cases e : i = m + 1
    · rw [if_pos e]
      by_cases ej : q = j
      · subst ej
        refine .inr ⟨m, by omega, ?_⟩
        rwa [show n1 - ds.length + q = n0 + q by omega] at hb
      · rw [← hCs, List.getElem?_set_ne (fun h => ej h.symm), ← hCm]
        rcases hq q hql m (Nat.le_refl _) with h | ⟨m', hm', hb'⟩
        · exact .inl h
        · exact .inr ⟨m', by omega, hb'⟩
    · rw [if_neg e]
      exact hq q hql i (by omega)
theorem DrN.fin {id n0 n1 m n : Nat} {l : List Oper} {Θ : Ctx} {Ms Mc : Mem} {ds : List Nat} {zs : List (List VP)} {Cs : List MP} (hm : P.follows .mixedOrders = true) (hn : n = n1 + m) (hap : apartB l n1 Γ = true) (htl : tailB l n = true) (hnl : Nat.ble n l.length = true)
    (k : ∀ bs : List Nat, bs.length = ds.length → Ops E P l.toArray Q (l.drop n) (Θ ++ (gctx ds (bs.map some) ++ Γ)) (gmem Cs (bs.map some) ++ Mc)) : DrN E P id l Γ M Ms Q n0 n1 ds zs Θ m Cs Mc := by
  intro Ss CF f hD hΘ hn1 hal hC0 hf0 hCm hfm hsub hlen hmid hq
  subst hn
  have hnl' := Nat.le_of_ble_eq_true hnl
  have hap1 : ∀ i d, i < n1 → (l[i]?).bind (·.dst) = some d → (∀ t S, look Γ t = some S → t ≠ d) ∧ ∀ j e, j < n1 → j ≠ i → (l[j]?).bind (·.dst) = some e → e ≠ d := by
    intro i d hi hd
    have h1 := List.all_eq_true.1 hap i (by simpa using hi)
    rw [hd] at h1
    simp only [Bool.and_eq_true] at h1
    refine ⟨look_none h1.1, fun j e hj hne he => ?_⟩
    have h2 := List.all_eq_true.1 h1.2 j (by simpa using hj)
    rw [he] at h2
    simp only [Bool.or_eq_true, Bool.not_eq_true'] at h2
    rcases h2 with h2 | h2
    · exact absurd (Nat.eq_of_beq_eq_true h2).symm hne
    · exact fun e' => Nat.ne_of_beq_eq_false h2 e'.symm
  have hk : ∀ bs : List Nat, bs.length = ds.length → Ops E P l.toArray Q (l.drop (n1 + m)) (dctx (l.take n0) Ss ++ (gctx ds (bs.map some) ++ Γ)) (gmem (CF m) (bs.map some) ++ f m) := by
    intro bs hbs
    rw [hfm, hCm]
    refine fun a w F s => k bs hbs a w F (s.wider fun t S ht => ?_)
    rw [look_append] at ht
    cases hl : look Θ t with
    | none =>
      rw [hl] at ht
      have ht' : look (gctx ds (bs.map some) ++ Γ) t = some S := by simpa using ht
      have hno : look (dctx (l.take n0) Ss) t = none := by
        cases hd : look (dctx (l.take n0) Ss) t with
        | none => rfl
        | some S' =>
          obtain ⟨j, o, b1, b2, b3⟩ := look_dctx _ _ _ _ hd
          have hj : j < n0 := by
            rcases Nat.lt_or_ge j n0 with h' | h'
            · exact h'
            · rw [List.getElem?_eq_none (by simp; omega)] at b1; cases b1
          rw [List.getElem?_take_of_lt hj] at b1
          obtain ⟨p1, p2⟩ := hap1 j t (by omega) (by rw [b1]; exact b2)
          rw [look_append] at ht'
          cases hg : look (gctx ds (bs.map some)) t with
          | none => rw [hg] at ht'; exact absurd rfl (p1 t S (by simpa using ht'))
          | some S'' =>
            obtain ⟨q, hq'⟩ := look_gctx _ _ _ _ hg
            have hql : q < ds.length := by
              rcases Nat.lt_or_ge q ds.length with h | h
              · exact h
              · rw [List.getElem?_eq_none h] at hq'; cases hq'
            obtain ⟨d, T, z, Zs, ty, pos, after, a1, a2, _⟩ := hal.at q hql
            rw [hq'] at a1; obtain rfl := Option.some.inj a1
            exact absurd rfl (p2 (n0 + q) t (by omega) (by omega) (by rw [a2]; rfl))
      exact s.slots t S (by rw [look_append, hno]; simpa using ht')
    | some S' =>
      rw [hl] at ht
      obtain rfl : S' = S := by simpa using ht
      obtain ⟨j, o, b0, b1, b2, b3⟩ := hΘ t S' hl
      have hex : ∀ (l' : List Oper) (Ss' : List VP) (j : Nat), (l'[j]?).bind (·.dst) = some t → Ss'[j]? = some S' → (∀ j', j' ≠ j → (l'[j']?).bind (·.dst) ≠ some t) → look (dctx l' Ss') t = some S' := by
        intro l'
        induction l' with
        | nil => intro Ss' j h; simp at h
        | cons o' l' ih =>
          intro Ss' j h1 h2 h3
          cases Ss' with
          | nil => simp at h2
          | cons T Ss' =>
            cases j with
            | zero =>
              simp at h1 h2
              subst h2
              simp [dctx, h1, look]
            | succ j =>
              have hrec := ih Ss' j (by simpa using h1) (by simpa using h2) (fun j' hj' => by simpa using h3 (j' + 1) (by omega))
              have h0 := h3 0 (by omega)
              simp at h0
              simp only [dctx]
              cases hd : o'.dst with
              | none => exact hrec
              | some d' =>
                simp only [look]
                have hne : Nat.beq d' t = false := by
                  cases hb : Nat.beq d' t with
                  | false => rfl
                  | true => exact absurd (by rw [hd, Nat.eq_of_beq_eq_true hb]) h0
                rw [hne]; exact hrec
      have hlk := hex (l.take n0) Ss j (by rw [List.getElem?_take_of_lt b0, b1]; exact b2) b3 (fun j' hj' he => by
        have hj'n : j' < n0 := by
          rcases Nat.lt_or_ge j' n0 with h' | h'
          · exact h'
          · rw [List.getElem?_eq_none (by simp; omega)] at he; simp at he
        rw [List.getElem?_take_of_lt hj'n] at he
        exact (hap1 j t (by omega) (by rw [b1]; exact b2)).2 j' t (by omega) hj' he rfl)
      exact s.slots t S' (by rw [look_append, hlk]; rfl)
  intro a w F s
  refine wp_region_any hm ?_
  have s1 := s.adv (Adv.drew w F)
  have hzl := hal.len
  refine phaseD hn1 hD hsub hmid hlen (fun q hql => ?_) hap htl hnl' hk _ _ a _ F 0 (List.replicate ds.length none) (Nat.zero_le _) (by simp) (fun j o hj => ?_) ?_ (by simp) (fun j hj hjl => ?_) (fun j h1 h2 => absurd h2 (by omega)) ?_ ?_ ?_
  · obtain ⟨d, T, z, Zs, ty, pos, after, a1, a2, a3, a4, a5, a6⟩ := hal.at q hql
    refine ⟨d, T, z, Zs, ty, pos, after, a1, a2, a3, a4, a5, fun m' hm' => ?_⟩
    have := hq q hql m' hm'
    rw [List.getElem?_map, a6] at this
    simpa using this
  · have hjl : j < ds.length := by
      rcases Nat.lt_or_ge j ds.length with h | h
      · exact h
      · rw [List.getElem?_eq_none (by simpa using h)] at hj; cases hj
    rw [List.getElem?_replicate, if_pos hjl] at hj
    obtain rfl := Option.some.inj hj
    have : n0 + j < l.length := by omega
    simp [this]
  · simp
    exact Nat.le_trans List.countP_le_length (by simp)
  · have : j < l.length := hjl
    simp [this]
  · intro i o hi hL
    simp [Array.getD_eq_getD_getElem?, Array.getElem?_replicate] at hL
    split at hL <;> simp at hL
  · rw [hf0, hC0]
    have hgn : ∀ (Cs : List MP) (k : Nat), ∀ x ∈ gmem Cs (List.replicate k none), x.1 = none := by
      intro Cs
      induction Cs with
      | nil => intro k x hx; simp [gmem] at hx
      | cons C Cs ih =>
        intro k x hx
        cases k with
        | zero => simp [gmem] at hx
        | succ k =>
          rw [List.replicate_succ] at hx
          simp only [gmem, List.mem_cons] at hx
          rcases hx with rfl | hx
          · rfl
          · exact ih k x hx
    have hgc : ∀ (ds : List Nat) (k : Nat) t S, look (gctx ds (List.replicate k none)) t = some S → S = isOP none := by
      intro ds k t S h
      obtain ⟨j, o, h1, h2, h3⟩ := look_gctx_at _ _ _ _ h
      rw [List.getElem?_replicate] at h2
      split at h2
      · obtain rfl := Option.some.inj h2; exact h3
      · cases h2
    refine { s1 with slots := fun t S ht => ?_, mem := ⟨?_, fun b C hb => ?_⟩ }
    · rw [look_append] at ht
      cases hl : look (gctx ds (List.replicate ds.length none)) t with
      | none => rw [hl] at ht; exact s1.slots t S (by simpa using ht)
      | some S' =>
        rw [hl] at ht
        obtain rfl : S' = S := by simpa using ht
        rw [hgc _ _ _ _ hl]
        intro b hb; cases hb
    · rw [List.pairwise_append]
      refine ⟨?_, s1.mem.apart, fun x hx y hy => .inl (hgn _ _ x hx)⟩
      exact List.Pairwise.imp_of_mem (R := fun _ _ => True) (fun hx _ _ => .inl (hgn _ _ _ hx)) (List.pairwise_of_forall (fun _ _ => trivial))
    · rcases List.mem_append.1 hb with h | h
      · have := hgn _ _ _ h; cases this
      · exact s1.mem.each b C h
  · intro j o d S hL
    simp [Array.getD_eq_getD_getElem?, Array.getElem?_replicate] at hL
    split at hL <;> simp at hL
theorem len1 {bs : List Nat} (h : bs.length = 1) : ∃ a, bs = [a] := by match bs, h with | [a], _ => exact ⟨a, rfl⟩
theorem len2 {bs : List Nat} (h : bs.length = 2) : ∃ a b, bs = [a, b] := by match bs, h with | [a, b], _ => exact ⟨a, b, rfl⟩
theorem len3 {bs : List Nat} (h : bs.length = 3) : ∃ a b c, bs = [a, b, c] := by match bs, h with | [a, b, c], _ => exact ⟨a, b, c, rfl⟩
end
end Go.En
/- What the functions on whole numbers tell. No program here. -/
namespace Go.Nt
theorem zv_zero (n : Bool) (xs : List Nat) : zv n xs = 0 ↔ val xs = 0 := by unfold zv; split <;> omega
theorem from_neg (m : Bool) (xs : List Nat) : (m && decide (0 < (((List.length (words (val xs))) : Nat) : Int))) = decide (zv m xs < 0) := by
  rw [zv_neg]
  congr 1
  apply decide_eq_decide.2
  constructor
  · intro h e; rw [e, words_zero] at h; simp at h
  · intro h; have := nw_pos h; omega
theorem from_word (m : Bool) (n : Nat) : zv m (words n) = if m = true then -(n : Int) else (n : Int) := by unfold zv; rw [val_words]
theorem neg_word {x : Int} (h : x < 0) (h2 : -9223372036854775808 ≤ x) : (18446744073709551616 - (x % 18446744073709551616).toNat) % 18446744073709551616 = x.natAbs := by omega
theorem sgn_zero {n : Bool} {xs : List Nat} (h : ((bitLen (val xs) : Nat) : Int) = 0) : 0 = sgn (zv n xs) := by
  have h2 : val xs = 0 := by
    rcases Nat.eq_zero_or_pos (val xs) with e | e
    · exact e
    · have := bitLen_pos (x := val xs) (by omega); omega
  unfold sgn; rw [if_pos ((zv_zero n xs).2 h2)]
theorem sgn_of {n : Bool} {xs : List Nat} (h : ¬ ((bitLen (val xs) : Nat) : Int) = 0) : (if n = true then -1 else 1) = sgn (zv n xs) := by
  have h2 : val xs ≠ 0 := fun e => h (by rw [e]; rfl)
  cases n
  · have e : zv false xs = (val xs : Int) := zv_false xs
    show (1 : Int) = sgn (zv false xs)
    rw [e]; unfold sgn; rw [if_neg (by omega), if_neg (by omega)]
  · have e : zv true xs = -(val xs : Int) := by unfold zv; rw [if_pos rfl]
    show (-1 : Int) = sgn (zv true xs)
    rw [e]; unfold sgn; rw [if_neg (by omega), if_pos (by omega)]
theorem sgn_cases (z : Int) : (sgn z = 0 ∧ z = 0) ∨ (sgn z = -1 ∧ z < 0) ∨ (sgn z = 1 ∧ 0 < z) := by
  unfold sgn; split
  · exact .inl ⟨rfl, by assumption⟩
  · split
    · exact .inr (.inl ⟨rfl, by assumption⟩)
    · exact .inr (.inr ⟨rfl, by omega⟩)
theorem sgn_range (z : Int) : -1 ≤ sgn z ∧ sgn z ≤ 1 := by rcases sgn_cases z with h | h | h <;> omega
theorem cmpZ_lt {x y : Int} (h : sgn x < sgn y) : -1 = cmpZ x y := by
  have : x < y := by rcases sgn_cases x with h1 | h1 | h1 <;> rcases sgn_cases y with h2 | h2 | h2 <;> omega
  unfold cmpZ; rw [if_pos this]
theorem cmpZ_gt {x y : Int} (h : sgn y < sgn x) : 1 = cmpZ x y := by
  have : y < x := by rcases sgn_cases x with h1 | h1 | h1 <;> rcases sgn_cases y with h2 | h2 | h2 <;> omega
  unfold cmpZ; rw [if_neg (by omega), if_pos this]
theorem cmpN_cases (a b : Nat) : (a < b ∧ cmpN a b = -1) ∨ (b < a ∧ cmpN a b = 1) ∨ (a = b ∧ cmpN a b = 0) := by
  unfold cmpN; split
  · exact .inl ⟨by assumption, rfl⟩
  · split
    · exact .inr (.inl ⟨by assumption, rfl⟩)
    · exact .inr (.inr ⟨by omega, rfl⟩)
theorem cmpZ_cases (x y : Int) : (x < y ∧ cmpZ x y = -1) ∨ (y < x ∧ cmpZ x y = 1) ∨ (x = y ∧ cmpZ x y = 0) := by
  unfold cmpZ; split
  · exact .inl ⟨by assumption, rfl⟩
  · split
    · exact .inr (.inl ⟨by assumption, rfl⟩)
    · exact .inr (.inr ⟨by omega, rfl⟩)
theorem cmpZ_neg {m n : Bool} {xs ys : List Nat} (h1 : sgn (zv m xs) < 0) (h2 : ¬ sgn (zv m xs) < sgn (zv n ys)) (h3 : ¬ sgn (zv n ys) < sgn (zv m xs)) : cmpN (val ys) (val xs) = cmpZ (zv m xs) (zv n ys) := by
  have hx := zv_abs m xs
  have hy := zv_abs n ys
  generalize zv m xs = x at *
  generalize zv n ys = y at *
  rcases sgn_cases x with c | c | c <;> rcases sgn_cases y with d | d | d <;> rcases cmpN_cases (val ys) (val xs) with e | e | e <;> rcases cmpZ_cases x y with f | f | f <;> omega
theorem cmpZ_pos {m n : Bool} {xs ys : List Nat} (h1 : ¬ sgn (zv m xs) < 0) (h2 : ¬ sgn (zv m xs) < sgn (zv n ys)) (h3 : ¬ sgn (zv n ys) < sgn (zv m xs)) : cmpN (val xs) (val ys) = cmpZ (zv m xs) (zv n ys) := by
  have hx := zv_abs m xs
  have hy := zv_abs n ys
  generalize zv m xs = x at *
  generalize zv n ys = y at *
  rcases sgn_cases x with c | c | c <;> rcases sgn_cases y with d | d | d <;> rcases cmpN_cases (val xs) (val ys) with e | e | e <;> rcases cmpZ_cases x y with f | f | f <;> omega
theorem cmpZ_eq0 (x y : Int) : decide (cmpZ x y = 0) = decide (x = y) := by
  apply decide_eq_decide.2
  rcases cmpZ_cases x y with h | h | h <;> omega
theorem sgn_nn (z : Int) : 0 ≤ sgn z ↔ 0 ≤ z := by rcases sgn_cases z with h | h | h <;> omega
theorem sgn_pos (z : Int) : 0 < sgn z ↔ 0 < z := by rcases sgn_cases z with h | h | h <;> omega
theorem sgn_eq0 (z : Int) : sgn z = 0 ↔ z = 0 := by rcases sgn_cases z with h | h | h <;> omega
theorem sgn_lt (z : Int) : sgn z < 0 ↔ z < 0 := by rcases sgn_cases z with h | h | h <;> omega
theorem quo_rest (m n : Bool) (xs ys : List Nat) : zv m (words (if val ys = 0 then 0 else val xs % val ys)) = if zv n ys = 0 then 0 else (zv m xs).tmod (zv n ys) := by
  by_cases h : val ys = 0
  · rw [if_pos h, if_pos ((zv_zero n ys).2 h), from_word]; simp
  · rw [if_neg h, if_neg (fun e => h ((zv_zero n ys).1 e)), zv_tmod]
theorem ne_zv (n : Bool) (ys : List Nat) : decide (val ys ≠ 0) = decide (zv n ys ≠ 0) := decide_eq_decide.2 (not_congr (zv_zero n ys).symm)
/-- Euclid's quotient and rest out of those rounded to 0 -/
theorem euc0 {x y : Int} (h : ¬ y ≠ 0 ∨ 0 ≤ sgn (if y = 0 then 0 else x.tmod y)) : x.tdiv y = x / y ∧ (if y = 0 then 0 else x.tmod y) = (if y = 0 then 0 else x % y) := by
  by_cases hy : y = 0
  · subst hy; simp
  · rw [if_neg hy, sgn_nn] at h
    rw [if_neg hy, if_neg hy]
    exact (tmod_cases x y).1 (h.resolve_left (fun e => e hy))
theorem euc1 {x y : Int} (h : y ≠ 0 ∧ sgn (if y = 0 then 0 else x.tmod y) < 0) (hp : 0 < sgn y) : x.tdiv y - 1 = x / y ∧ (if y = 0 then 0 else x.tmod y) + y = (if y = 0 then 0 else x % y) := by
  obtain ⟨hy, h⟩ := h
  rw [if_neg hy, sgn_lt] at h
  rw [if_neg hy, if_neg hy]
  exact ((tmod_cases x y).2 h).1 ((sgn_pos y).1 hp)
theorem euc2 {x y : Int} (h : y ≠ 0 ∧ sgn (if y = 0 then 0 else x.tmod y) < 0) (hp : sgn y ≤ 0) : x.tdiv y + 1 = x / y ∧ (if y = 0 then 0 else x.tmod y) - y = (if y = 0 then 0 else x % y) := by
  obtain ⟨hy, h⟩ := h
  rw [if_neg hy, sgn_lt] at h
  rw [if_neg hy, if_neg hy]
  refine ((tmod_cases x y).2 h).2 ?_
  rcases sgn_cases y with g | g | g <;> omega
theorem ex_no {x y : Int} (h : ¬ y ≠ 0 ∨ ¬ sgn (if y = 0 then 0 else x.tmod y) = 0) : ¬ (y ≠ 0 ∧ x.tmod y = 0) := by
  rintro ⟨h1, h2⟩
  rcases h with h | h
  · exact h h1
  · rw [if_neg h1, sgn_eq0] at h; exact h h2
theorem ex_yes {x y : Int} (h : y ≠ 0 ∧ sgn (if y = 0 then 0 else x.tmod y) = 0) : y ≠ 0 ∧ x.tmod y = 0 := by
  obtain ⟨h1, h2⟩ := h
  rw [if_neg h1, sgn_eq0] at h2
  exact ⟨h1, h2⟩
theorem nz_if (x y : Int) : (List.length (words (if y = 0 then 0 else x.tmod y).natAbs)) ≤ (List.length (words x.natAbs)) := by
  split
  · rw [Int.natAbs_zero, words_zero]; exact Nat.zero_le _
  · exact nz_tmod x y
theorem nz_one : (List.length (words (1 : Int).natAbs)) = 1 := nw_one
end Go.Nt
/- Whole numbers as a sign and digits; the reference for them. No program here. -/
namespace Go.Nt
def dv (n : Bool) (xs : List Nat) : Int := if n = true then -(dval xs : Int) else (dval xs : Int)
/-! ### lines of a product -/
end Go.Nt
/- Inverses and powers by a modulus. No program here. -/
namespace Go.Nt
/-- what makes the greatest common divisor, as it is told -/
def xg (A B : Int) : Int := (cof A B 1 0).2 % ((B.natAbs : Int) / ((Nat.gcd A.natAbs B.natAbs : Nat) : Int))
theorem gcd_pos' {A B : Int} (h : B ≠ 0) : 0 < Nat.gcd A.natAbs B.natAbs := Nat.gcd_pos_of_pos_right _ (by omega)
theorem xg_step {A B : Int} (h : B ≠ 0) : (if (cof A B 1 0).1 ≠ 0 ∧ (((B.natAbs : Nat) : Int)).tmod (cof A B 1 0).1 = 0 then (((B.natAbs : Nat) : Int)).tdiv (cof A B 1 0).1 else 0) = (B.natAbs : Int) / ((Nat.gcd A.natAbs B.natAbs : Nat) : Int) := by
  have hg := gcd_pos' (A := A) h
  rw [(cof_all A B).1]
  have hd : B.natAbs % Nat.gcd A.natAbs B.natAbs = 0 := Nat.mod_eq_zero_of_dvd (Nat.gcd_dvd_right _ _)
  have h1 : (((B.natAbs : Nat) : Int)).tmod ((Nat.gcd A.natAbs B.natAbs : Nat) : Int) = 0 := by
    rw [← Int.ofNat_tmod, hd]; rfl
  rw [if_pos ⟨by omega, h1⟩, Int.tdiv_eq_ediv_of_nonneg (by omega)]
theorem step_pos {A B : Int} (h : B ≠ 0) : 0 < (B.natAbs : Int) / ((Nat.gcd A.natAbs B.natAbs : Nat) : Int) := by
  have hg := gcd_pos' (A := A) h
  rw [← Int.natCast_ediv]
  have : 0 < B.natAbs / Nat.gcd A.natAbs B.natAbs := Nat.div_pos (Nat.le_of_dvd (by omega) (Nat.gcd_dvd_right _ _)) hg
  omega
theorem step_le (A B : Int) : ((B.natAbs : Int) / ((Nat.gcd A.natAbs B.natAbs : Nat) : Int)).natAbs ≤ B.natAbs := by
  rw [← Int.natCast_ediv, Int.natAbs_natCast]; exact Nat.div_le_self _ _
theorem xg_le {A B : Int} (h : B ≠ 0) : (xg A B).natAbs ≤ B.natAbs := by
  have h1 := step_pos (A := A) h
  have h2 := step_le A B
  have h3 := Int.emod_nonneg (cof A B 1 0).2 (show (B.natAbs : Int) / ((Nat.gcd A.natAbs B.natAbs : Nat) : Int) ≠ 0 by omega)
  have h4 := Int.emod_lt_of_pos (cof A B 1 0).2 h1
  unfold xg; omega
/-! ### powers -/
/-! ### Euclid's steps are few -/
/-! ### the elements of a field -/
theorem toNat_lt {z : Int} {p : Nat} (hp : 0 < p) : (z % (p : Int)).toNat < p := by
  have h1 := Int.emod_nonneg z (show (p : Int) ≠ 0 by omega)
  have h2 := Int.emod_lt_of_pos z (show 0 < (p : Int) by omega)
  omega
end Go.Nt
/- Whole numbers in the program: a sign and words. -/
namespace Go.En
open Go.RowKit Go.Nt
set_option linter.unusedVariables false
abbrev isZ (z : Int) : VP := Flat [isB (decide (z < 0)), SlM isU (words z.natAbs)]
abbrev zM (k : Nat) (z : Int) : Option Nat × MP := (some k, cellM [isB (decide (z < 0)), SlM isU (words z.natAbs)])
theorem isZ_eq {z z' : Int} (h : z = z') : isZ z = isZ z' := h ▸ rfl
theorem isZ_of {n : Bool} {xs : List Nat} {z : Int} (h : n = decide (z < 0)) (h2 : xs = words z.natAbs) : Flat [isB n, SlM isU xs] = isZ z := by subst h; subst h2; rfl
theorem isZ0 : Flat [isB false, SlM isU []] = isZ 0 := isZ_of (by decide) (by rw [Int.natAbs_zero, words_zero])
section
variable {E : Env} {P : Program} {Γ : Ctx} {M : Mem} {x : Operand}
theorem Has.okZ {n : Bool} {xs : List Nat} (h : Has E Γ M x (Flat [isB n, SlM isU xs])) : ∀ a w F, Sat E Γ M a w F → (∀ y ∈ xs, y < 18446744073709551616) ∧ xs.length ≤ 9223372036854775807 := by
  intro a w F s
  obtain ⟨vs, e, hv⟩ := h a w F s
  obtain ⟨v, hv1, hv2⟩ := hv.get 1 (SlM isU xs) rfl
  obtain ⟨ad, cap, e, g1, g2, g3, g4⟩ := hv2
  refine ⟨fun y hy => ?_, by rw [maxLen_eq] at g2; omega⟩
  obtain ⟨i, hi, rfl⟩ := List.mem_iff_getElem.1 hy
  rcases g4 with g4 | ⟨b, off, _, _, vs, hv, _⟩
  · omega
  · obtain ⟨v, _, h2⟩ := hv.get i (isU xs[i]) (by simp [hi])
    exact h2.2
theorem Has.lt2 {a b : Nat} (h : Has E Γ M x (Flat [isU a, isU b])) : ∀ ac w F, Sat E Γ M ac w F → a < 18446744073709551616 ∧ b < 18446744073709551616 := by
  intro ac w F s
  obtain ⟨vs, e, hv⟩ := h ac w F s
  obtain ⟨v, hv1, hv2⟩ := hv.get 0 (isU a) rfl
  obtain ⟨v', hv3, hv4⟩ := hv.get 1 (isU b) rfl
  exact ⟨hv2.2, hv4.2⟩
end
end Go.En
/- Contracts: whole numbers. -/
namespace Go.Proofs.Ytcfobfedliajdaa
open Go.En Go.RowKit
set_option linter.unusedVariables false
set_option maxRecDepth 10000
open Go.Nt
set_option maxHeartbeats 4000000 in
theorem zint_From {xs : List Nat} {m : Bool} (hx : (List.length (words (val xs))) ≤ 4294967296) : Ctr Try.prog 32 [isWords xs, isB m] (isZ (zv m xs)) := by
  refine Ctr.intro Try.func32 rfl (by kernel_rfl) Try.ntmps32 rfl fun w0 F0 => ?_
  refine Tri.cv (Cv.wk (.cons (t := 0) (Has.t rfl) (.cons (t := 1) (Has.t rfl) .nil))) ?_
  refine Tri.fact (Has.lenLt (Has.t (t := 0) rfl)) fun lt0 => ?_
  refine Tri.fact (Has.okW (Has.t (t := 0) rfl)) fun ok0 => ?_
  refine Tri.seq fun K1 hK1 => ?_
  refine Tri.region ?_
  refine Ops.alloc [isB false, SlM isU []] zero37 (fun _ _ => ⟨rfl, nilM _ _, trivial⟩) rfl fun b1 => ?_
  refine nl ?_
  refine At.thn (hK1 _ _ ?_); clear hK1
  refine Tri.seq fun K2 hK2 => ?_
  refine Tri.region ?_
  refine st (OK1.mv (Has.t rfl)) rfl ?_
  refine st (OK1.call (nat_Norm (by first | with_reducible assumption | omega | (simp only [val_words, zv_nf]; omega) | (simp only [val_words]; exact Nat.le_trans (nw_small' (by omega)) (by decide)))) (.cons (Has.t rfl) .nil)) rfl ?_
  refine st (OK1.as (Has.t rfl)) rfl ?_
  refine nl ?_
  refine At.thn (hK2 _ _ ?_); clear hK2
  refine Tri.seq fun K3 hK3 => ?_
  refine Tri.region ?_
  refine st (OK1.mv (Has.t rfl)) rfl ?_
  refine st (OK1.mv (Has.t rfl)) rfl ?_
  refine stT rfl rfl (fun hg => have hg' := BP.t hg; OK1.mv (Has.t rfl)) rfl ?_
  refine stT rfl rfl (fun hg => have hg' := BP.t hg; OK1.len sl35 (Has.g rfl hg)) rfl ?_
  refine stT rfl rfl (fun hg => have hg' := BP.t hg; OK1.gtI (Has.g rfl hg) (Has.cI 0 rfl)) rfl ?_
  refine st (OK1.pickAnd (Has.t rfl) (fun h => Has.g rfl h)) rfl ?_
  refine st (OK1.mv (Has.t rfl)) rfl ?_
  refine st (OK1.build [isB false, SlM isU []] pl37 zero37 (fun _ _ => ⟨rfl, nilM _ _, trivial⟩) (.cons (Has.t rfl) rfl rfl rfl (.cons (Has.t rfl) rfl rfl rfl .nil)) (Z'' := [_, _]) rfl) rfl ?_
  refine Ops.store (Has.t rfl) (Has.t rfl) (i := 0) rfl ty37 rfl rfl (Ss' := [_, _]) rfl (M' := [(some _, cellM [_, _])]) rfl ?_
  refine nl ?_
  refine At.thn (hK3 _ _ ?_); clear hK3
  refine Tri.cv (Cv.wk (.cons (t := 4) (Has.t rfl) .nil)) ?_
  refine Tri.ret ?_
  refine rt1 (.inl rfl) Try.results32 rfl (.cell rfl (i := 0) rfl ty37 rfl ?_ .nil)
  · exact isZ_of (from_neg m xs) (by rw [zv_abs])
set_option maxHeartbeats 4000000 in
theorem zint_Of {x : Int} : Ctr Try.prog 10 [isI x] (isZ x) := by
  refine Ctr.intro Try.func10 rfl (by kernel_rfl) Try.ntmps10 rfl fun w0 F0 => ?_
  refine Tri.cv (Cv.wk (.cons (t := 0) (Has.t rfl) .nil)) ?_
  refine Tri.fact (Has.rngI (Has.t (t := 0) rfl)) fun lt0 => ?_
  refine Tri.seq fun K1 hK1 => ?_
  refine Tri.region ?_
  refine Ops.alloc [isB false, SlM isU []] zero37 (fun _ _ => ⟨rfl, nilM _ _, trivial⟩) rfl fun b1 => ?_
  refine nl ?_
  refine At.thn (hK1 _ _ ?_); clear hK1
  refine Tri.seq fun K2 hK2 => ?_
  refine Tri.seq fun K3 hK3 => ?_
  refine Tri.region ?_
  refine st (OK1.mv (Has.t rfl)) rfl ?_
  refine st (OK1.ltI (Has.t rfl) (Has.cI 0 rfl)) rfl ?_
  refine nl ?_
  refine At.thn (hK3 _ _ ?_); clear hK3
  refine Tri.cond (Has.t rfl) (fun hc1 => ?_) (fun hc1 => ?_)
  · have hc1 := BP.t hc1
    have hN : x < 0 := hc1
    refine Tri.seq fun K4 hK4 => ?_
    refine Tri.region ?_
    refine st (OK1.mv (Has.t rfl)) rfl ?_
    refine st (OK1.convIUw un2 un66 (Has.t rfl)) rfl ?_
    refine st (OK1.eq (OK1.negU (Has.t rfl) (by first | with_reducible assumption | omega | (simp only [val_words, zv_nf]; omega) | (simp only [val_words]; exact Nat.le_trans (nw_small' (by omega)) (by decide)))) ((show isU _ = isU x.natAbs from isU_eq (neg_word hc1 (by omega))))) rfl ?_
    refine st (OK1.call (nat_Of) (.cons (Has.t rfl) .nil)) rfl ?_
    refine st (OK1.call (zint_From (by first | with_reducible assumption | omega | (simp only [val_words, zv_nf]; omega) | (simp only [val_words]; exact Nat.le_trans (nw_small' (by omega)) (by decide)))) (.cons (Has.t rfl) (.cons (Has.cB true) .nil))) rfl ?_
    refine Ops.store (Has.t rfl) (Has.t rfl) (i := 0) rfl ty37 rfl rfl (Ss' := [_, _]) rfl (M' := [(some _, cellM [_, _])]) rfl ?_
    refine nl ?_
    refine At.thn (hK4 _ _ ?_); clear hK4
    refine Tri.cv (Cv.wk (.cons (t := 0) (Has.t rfl) (.cons (t := 2) (Has.t rfl) .nil))) ?_
    refine Tri.ret ?_
    refine At.thr ?_
    refine rt1 (.inl rfl) Try.results10 rfl (.cell rfl (i := 0) rfl ty37 rfl ?_ .nil)
    · exact isZ_eq (by rw [from_word, if_pos rfl]; omega)
  · have hc1 := BP.f hc1
    have hN : 0 ≤ x := (by omega)
    refine Tri.skip ?_
    refine At.thn (hK2 _ _ ?_); clear hK2
    refine Tri.seq fun K5 hK5 => ?_
    refine Tri.region ?_
    refine st (OK1.mv (Has.t rfl)) rfl ?_
    refine st (OK1.eq (OK1.convIU un2 un66 (Has.t rfl) (by first | with_reducible assumption | omega | (simp only [val_words, zv_nf]; omega) | (simp only [val_words]; exact Nat.le_trans (nw_small' (by omega)) (by decide))) (by first | with_reducible assumption | omega | (simp only [val_words, zv_nf]; omega) | (simp only [val_words]; exact Nat.le_trans (nw_small' (by omega)) (by decide)))) ((show isU _ = isU x.natAbs from isU_eq (by omega)))) rfl ?_
    refine st (OK1.call (nat_Of) (.cons (Has.t rfl) .nil)) rfl ?_
    refine st (OK1.call (zint_From (by first | with_reducible assumption | omega | (simp only [val_words, zv_nf]; omega) | (simp only [val_words]; exact Nat.le_trans (nw_small' (by omega)) (by decide)))) (.cons (Has.t rfl) (.cons (Has.cB false) .nil))) rfl ?_
    refine Ops.store (Has.t rfl) (Has.t rfl) (i := 0) rfl ty37 rfl rfl (Ss' := [_, _]) rfl (M' := [(some _, cellM [_, _])]) rfl ?_
    refine nl ?_
    refine At.thn (hK5 _ _ ?_); clear hK5
    refine Tri.cv (Cv.wk (.cons (t := 2) (Has.t rfl) .nil)) ?_
    refine Tri.ret ?_
    refine rt1 (.inl rfl) Try.results10 rfl (.cell rfl (i := 0) rfl ty37 rfl ?_ .nil)
    · exact isZ_eq (by rw [from_word, if_neg (by decide)]; omega)
set_option maxHeartbeats 4000000 in
theorem zint_Sign {m : Bool} {xs : List Nat} (hx : (List.length (words (val xs))) < 4294900000) : Ctr Try.prog 16 [Flat [isB m, isWords xs]] (isI (sgn (zv m xs))) := by
  refine Ctr.intro Try.func16 rfl (by kernel_rfl) Try.ntmps16 rfl fun w0 F0 => ?_
  refine Tri.cv (Cv.wk (.cons (t := 0) (Has.t rfl) .nil)) ?_
  refine Tri.fact (Has.okZ (Has.t (t := 0) rfl)) fun okz0 => ?_
  refine Tri.seq fun K1 hK1 => ?_
  refine Tri.region ?_
  refine Ops.box (Has.t rfl) rfl fun b1 => ?_
  refine st (OK1.as (Has.cI 0 rfl)) rfl ?_
  refine nl ?_
  refine At.thn (hK1 _ _ ?_); clear hK1
  refine Tri.seq fun K2 hK2 => ?_
  refine Tri.block ?_
  refine Tri.seq fun K3 hK3 => ?_
  refine Tri.region ?_
  refine st (OK1.fieldAddr (Has.t rfl) fld37_1 ty35) rfl ?_
  refine st (OK1.load1 (Has.t rfl) (i := 0) rfl ty35 rfl) rfl ?_
  refine st (OK1.call (nat_Bits (by first | with_reducible assumption | omega | (simp only [val_words, zv_nf]; omega) | (simp only [val_words]; exact Nat.le_trans (nw_small' (by omega)) (by decide)))) (.cons (Has.t rfl) .nil)) rfl ?_
  refine st (OK1.eqI (Has.t rfl) (Has.cI 0 rfl)) rfl ?_
  refine st (OK1.as (Has.t rfl)) rfl ?_
  refine nl ?_
  refine At.thn (hK3 _ _ ?_); clear hK3
  refine Tri.cv (Cv.wk (.cons (t := 1) (Has.t rfl) (.cons (t := 2) (Has.t rfl) (.cons (t := 3) (Has.t rfl) .nil)))) ?_
  refine Tri.cond (Has.t rfl) (fun hc1 => ?_) (fun hc1 => ?_)
  · have hc1 := BP.t hc1
    refine Tri.seq fun K4 hK4 => ?_
    refine Tri.region ?_
    refine st (OK1.as (Has.cI 0 rfl)) rfl ?_
    refine nl ?_
    refine At.thn (hK4 _ _ ?_); clear hK4
    refine Tri.ret ?_
    refine At.blr ?_
    refine At.thr ?_
    refine rt1 (.inl rfl) Try.results16 rfl (.tmp (Has.t' rfl ?_) .nil)
    all_goals (exact isI_eq (sgn_zero hc1))
  · have hc1 := BP.f hc1
    refine Tri.seq fun K5 hK5 => ?_
    refine Tri.region ?_
    refine st (OK1.fieldAddr (Has.t rfl) fld37_0 ty4) rfl ?_
    refine st (OK1.load1 (Has.t rfl) (i := 0) rfl ty4 rfl) rfl ?_
    refine st (OK1.as (Has.t rfl)) rfl ?_
    refine nl ?_
    refine At.thn (hK5 _ _ ?_); clear hK5
    refine Tri.cond (Has.t rfl) (fun hc2 => ?_) (fun hc2 => ?_)
    · have hc2 := BP.t hc2
      have HM := hc2
      refine Tri.seq fun K6 hK6 => ?_
      refine Tri.region ?_
      refine st (OK1.as (Has.cI (-1) rfl)) rfl ?_
      refine nl ?_
      refine At.thn (hK6 _ _ ?_); clear hK6
      refine Tri.cv (Cv.wk (.cons (t := 2) (Has.t rfl) .nil)) ?_
      refine Tri.ret ?_
      refine At.blr ?_
      refine At.thr ?_
      refine rt1 (.inl rfl) Try.results16 rfl (.tmp (Has.t' rfl ?_) .nil)
      all_goals (exact isI_eq (by rw [← sgn_of hc1, if_pos HM]))
    · have hc2 := BP.f hc2
      have HM := hc2
      refine Tri.skip ?_
      refine At.bln ?_
      refine At.thn (hK2 _ _ ?_); clear hK2
      refine Tri.cv (Cv.wk (.cons (t := 2) (Has.t rfl) .nil)) ?_
      refine Tri.seq fun K7 hK7 => ?_
      refine Tri.region ?_
      refine st (OK1.as (Has.cI 1 rfl)) rfl ?_
      refine nl ?_
      refine At.thn (hK7 _ _ ?_); clear hK7
      refine Tri.ret ?_
      refine rt1 (.inl rfl) Try.results16 rfl (.tmp (Has.t' rfl ?_) .nil)
      all_goals (exact isI_eq (by rw [← sgn_of hc1, if_neg (by rw [HM]; decide)]))
set_option maxHeartbeats 4000000 in
theorem zint_Cmp {m n : Bool} {xs ys : List Nat} (hx : (List.length (words (val xs))) < 4294700000) (hy : (List.length (words (val ys))) < 4294700000) : Ctr Try.prog 41 [Flat [isB m, isWords xs], Flat [isB n, isWords ys]] (isI (cmpZ (zv m xs) (zv n ys))) := by
  refine Ctr.intro Try.func41 rfl (by kernel_rfl) Try.ntmps41 rfl fun w0 F0 => ?_
  refine Tri.cv (Cv.wk (.cons (t := 0) (Has.t rfl) (.cons (t := 1) (Has.t rfl) .nil))) ?_
  refine Tri.fact (Has.okZ (Has.t (t := 0) rfl)) fun okz0 => ?_
  refine Tri.fact (Has.okZ (Has.t (t := 1) rfl)) fun okz1 => ?_
  refine Tri.seq fun K1 hK1 => ?_
  refine Tri.region ?_
  refine Ops.box (Has.t rfl) rfl fun b1 => ?_
  refine Ops.box (Has.t rfl) rfl fun b2 => ?_
  refine st (OK1.as (Has.cI 0 rfl)) rfl ?_
  refine nl ?_
  refine At.thn (hK1 _ _ ?_); clear hK1
  refine Tri.seq fun K2 hK2 => ?_
  refine Tri.dr ?_
  refine DrG.st (i := 0) [] rfl rfl rfl (by kernel_rfl) (OKG.o rfl (OK1.load (Has.t rfl) (i := 1) rfl ty37 rfl (Ss' := [_, _]) rfl)) ?_
  refine DrG.st (i := 1) [7] rfl rfl rfl (by kernel_rfl) (OKG.o rfl (OK1.call (zint_Sign (by first | with_reducible assumption | omega | (simp only [val_words, zv_nf]; omega) | (simp only [val_words]; exact Nat.le_trans (nw_small' (by omega)) (by decide)))) (.cons (Has.t rfl) .nil))) ?_
  refine DrG.st (i := 2) [] rfl rfl rfl (by kernel_rfl) (OKG.o rfl (OK1.load (Has.t rfl) (i := 0) rfl ty37 rfl (Ss' := [_, _]) rfl)) ?_
  refine DrG.fin (n := 3) mixed (by kernel_rfl) (by kernel_rfl) (by kernel_rfl) ?_
  refine Ops.cv (Cv.wk (.cons (t := 2) (Has.t rfl) (.cons (t := 3) (Has.t rfl) (.cons (t := 4) (Has.t rfl) (.cons (t := 8) (Has.t rfl) (.cons (t := 9) (Has.t rfl) .nil)))))) ?_
  refine st (OK1.call (zint_Sign (by first | with_reducible assumption | omega | (simp only [val_words, zv_nf]; omega) | (simp only [val_words]; exact Nat.le_trans (nw_small' (by omega)) (by decide)))) (.cons (Has.t rfl) .nil)) rfl ?_
  refine st (OK1.as (Has.t rfl)) rfl ?_
  refine st (OK1.as (Has.t rfl)) rfl ?_
  refine nl ?_
  refine At.thn (hK2 _ _ ?_); clear hK2
  refine Tri.seq fun K3 hK3 => ?_
  refine Tri.block ?_
  refine Tri.seq fun K4 hK4 => ?_
  refine Tri.region ?_
  refine st (OK1.mv (Has.t rfl)) rfl ?_
  refine st (OK1.mv (Has.t rfl)) rfl ?_
  refine st (OK1.ltI (Has.t rfl) (Has.t rfl)) rfl ?_
  refine st (OK1.as (Has.t rfl)) rfl ?_
  refine nl ?_
  refine At.thn (hK4 _ _ ?_); clear hK4
  refine Tri.cv (Cv.wk (.cons (t := 2) (Has.t rfl) (.cons (t := 3) (Has.t rfl) (.cons (t := 4) (Has.t rfl) (.cons (t := 5) (Has.t rfl) (.cons (t := 6) (Has.t rfl) (.cons (t := 11) (Has.t rfl) .nil))))))) ?_
  refine Tri.cond (Has.t rfl) (fun hc1 => ?_) (fun hc1 => ?_)
  · have hc1 := BP.t hc1
    refine Tri.seq fun K5 hK5 => ?_
    refine Tri.region ?_
    refine st (OK1.as (Has.cI (-1) rfl)) rfl ?_
    refine nl ?_
    refine At.thn (hK5 _ _ ?_); clear hK5
    refine Tri.ret ?_
    refine At.blr ?_
    refine At.thr ?_
    refine rt1 (.inl rfl) Try.results41 rfl (.tmp (Has.t' rfl ?_) .nil)
    all_goals (exact isI_eq (cmpZ_lt hc1))
  · have hc1 := BP.f hc1
    refine Tri.seq fun K6 hK6 => ?_
    refine Tri.region ?_
    refine st (OK1.mv (Has.t rfl)) rfl ?_
    refine st (OK1.mv (Has.t rfl)) rfl ?_
    refine st (OK1.gtI (Has.t rfl) (Has.t rfl)) rfl ?_
    refine st (OK1.as (Has.t rfl)) rfl ?_
    refine nl ?_
    refine At.thn (hK6 _ _ ?_); clear hK6
    refine Tri.cv (Cv.wk (.cons (t := 2) (Has.t rfl) (.cons (t := 3) (Has.t rfl) (.cons (t := 4) (Has.t rfl) (.cons (t := 5) (Has.t rfl) (.cons (t := 15) (Has.t rfl) .nil)))))) ?_
    refine Tri.cond (Has.t rfl) (fun hc2 => ?_) (fun hc2 => ?_)
    · have hc2 := BP.t hc2
      refine Tri.seq fun K7 hK7 => ?_
      refine Tri.region ?_
      refine st (OK1.as (Has.cI 1 rfl)) rfl ?_
      refine nl ?_
      refine At.thn (hK7 _ _ ?_); clear hK7
      refine Tri.ret ?_
      refine At.blr ?_
      refine At.thr ?_
      refine rt1 (.inl rfl) Try.results41 rfl (.tmp (Has.t' rfl ?_) .nil)
      all_goals (exact isI_eq (cmpZ_gt hc2))
    · have hc2 := BP.f hc2
      refine Tri.seq fun K8 hK8 => ?_
      refine Tri.region ?_
      refine st (OK1.mv (Has.t rfl)) rfl ?_
      refine st (OK1.ltI (Has.t rfl) (Has.cI 0 rfl)) rfl ?_
      refine st (OK1.as (Has.t rfl)) rfl ?_
      refine nl ?_
      refine At.thn (hK8 _ _ ?_); clear hK8
      refine Tri.cond (Has.t rfl) (fun hc3 => ?_) (fun hc3 => ?_)
      · have hc3 := BP.t hc3
        refine Tri.seq fun K9 hK9 => ?_
        refine Tri.region ?_
        refine st (OK1.fieldAddr (Has.t rfl) fld37_1 ty35) rfl ?_
        refine st (OK1.load1 (Has.t rfl) (i := 0) rfl ty35 rfl) rfl ?_
        refine st (OK1.fieldAddr (Has.t rfl) fld37_1 ty35) rfl ?_
        refine st (OK1.load1 (Has.t rfl) (i := 1) rfl ty35 rfl) rfl ?_
        refine st (OK1.call (nat_Cmp) (.cons (Has.t rfl) (.cons (Has.t rfl) .nil))) rfl ?_
        refine st (OK1.as (Has.t rfl)) rfl ?_
        refine nl ?_
        refine At.thn (hK9 _ _ ?_); clear hK9
        refine Tri.cv (Cv.wk (.cons (t := 2) (Has.t rfl) (.cons (t := 3) (Has.t rfl) (.cons (t := 4) (Has.t rfl) .nil)))) ?_
        refine Tri.ret ?_
        refine At.blr ?_
        refine At.thr ?_
        refine rt1 (.inl rfl) Try.results41 rfl (.tmp (Has.t' rfl ?_) .nil)
        all_goals (exact isI_eq (cmpZ_neg hc3 (by omega) (by omega)))
      · have hc3 := BP.f hc3
        refine Tri.skip ?_
        refine At.bln ?_
        refine At.thn (hK3 _ _ ?_); clear hK3
        refine Tri.cv (Cv.wk (.cons (t := 2) (Has.t rfl) (.cons (t := 3) (Has.t rfl) (.cons (t := 4) (Has.t rfl) .nil)))) ?_
        refine Tri.seq fun K10 hK10 => ?_
        refine Tri.region ?_
        refine st (OK1.fieldAddr (Has.t rfl) fld37_1 ty35) rfl ?_
        refine st (OK1.load1 (Has.t rfl) (i := 1) rfl ty35 rfl) rfl ?_
        refine st (OK1.fieldAddr (Has.t rfl) fld37_1 ty35) rfl ?_
        refine st (OK1.load1 (Has.t rfl) (i := 0) rfl ty35 rfl) rfl ?_
        refine st (OK1.call (nat_Cmp) (.cons (Has.t rfl) (.cons (Has.t rfl) .nil))) rfl ?_
        refine st (OK1.as (Has.t rfl)) rfl ?_
        refine nl ?_
        refine At.thn (hK10 _ _ ?_); clear hK10
        refine Tri.cv (Cv.wk (.cons (t := 4) (Has.t rfl) .nil)) ?_
        refine Tri.ret ?_
        refine rt1 (.inl rfl) Try.results41 rfl (.tmp (Has.t' rfl ?_) .nil)
        all_goals (exact isI_eq (cmpZ_pos (by omega) (by omega) (by omega)))
set_option maxHeartbeats 4000000 in
theorem zint_Same {m n : Bool} {xs ys : List Nat} (hx : (List.length (words (val xs))) < 4294700000) (hy : (List.length (words (val ys))) < 4294700000) : Ctr Try.prog 14 [Flat [isB m, isWords xs], Flat [isB n, isWords ys]] (isB (decide (zv m xs = zv n ys))) := by
  refine Ctr.intro Try.func14 rfl (by kernel_rfl) Try.ntmps14 rfl fun w0 F0 => ?_
  refine Tri.cv (Cv.wk (.cons (t := 0) (Has.t rfl) (.cons (t := 1) (Has.t rfl) .nil))) ?_
  refine Tri.fact (Has.okZ (Has.t (t := 0) rfl)) fun okz0 => ?_
  refine Tri.fact (Has.okZ (Has.t (t := 1) rfl)) fun okz1 => ?_
  refine Tri.seq fun K1 hK1 => ?_
  refine Tri.region ?_
  refine Ops.box (Has.t rfl) rfl fun b1 => ?_
  refine Ops.box (Has.t rfl) rfl fun b2 => ?_
  refine st (OK1.as (Has.cB false)) rfl ?_
  refine nl ?_
  refine At.thn (hK1 _ _ ?_); clear hK1
  refine Tri.seq fun K2 hK2 => ?_
  refine Tri.region ?_
  refine st (OK1.load (Has.t rfl) (i := 1) rfl ty37 rfl (Ss' := [_, _]) rfl) rfl ?_
  refine st (OK1.load (Has.t rfl) (i := 0) rfl ty37 rfl (Ss' := [_, _]) rfl) rfl ?_
  refine st (OK1.call (zint_Cmp (by first | with_reducible assumption | omega | (simp only [val_words, zv_nf]; omega) | (simp only [val_words]; exact Nat.le_trans (nw_small' (by omega)) (by decide))) (by first | with_reducible assumption | omega | (simp only [val_words, zv_nf]; omega) | (simp only [val_words]; exact Nat.le_trans (nw_small' (by omega)) (by decide)))) (.cons (Has.t rfl) (.cons (Has.t rfl) .nil))) rfl ?_
  refine st (OK1.eqI (Has.t rfl) (Has.cI 0 rfl)) rfl ?_
  refine st (OK1.as (Has.t rfl)) rfl ?_
  refine nl ?_
  refine At.thn (hK2 _ _ ?_); clear hK2
  refine Tri.cv (Cv.wk (.cons (t := 4) (Has.t rfl) .nil)) ?_
  refine Tri.ret ?_
  refine rt1 (.inl rfl) Try.results14 rfl (.tmp (Has.t' rfl ?_) .nil)
  all_goals (exact isB_eq (cmpZ_eq0 _ _))
set_option maxHeartbeats 4000000 in
theorem zint_Neg {m : Bool} {xs : List Nat} (hx : (List.length (words (val xs))) < 4294900000) : Ctr Try.prog 27 [Flat [isB m, isWords xs]] (isZ (-(zv m xs))) := by
  refine Ctr.intro Try.func27 rfl (by kernel_rfl) Try.ntmps27 rfl fun w0 F0 => ?_
  refine Tri.cv (Cv.wk (.cons (t := 0) (Has.t rfl) .nil)) ?_
  refine Tri.fact (Has.okZ (Has.t (t := 0) rfl)) fun okz0 => ?_
  refine Tri.seq fun K1 hK1 => ?_
  refine Tri.region ?_
  refine Ops.box (Has.t rfl) rfl fun b1 => ?_
  refine Ops.alloc [isB false, SlM isU []] zero37 (fun _ _ => ⟨rfl, nilM _ _, trivial⟩) rfl fun b2 => ?_
  refine nl ?_
  refine At.thn (hK1 _ _ ?_); clear hK1
  refine Tri.seq fun K2 hK2 => ?_
  refine Tri.region ?_
  refine st (OK1.fieldAddr (Has.t rfl) fld37_1 ty35) rfl ?_
  refine st (OK1.load1 (Has.t rfl) (i := 1) rfl ty35 rfl) rfl ?_
  refine st (OK1.fieldAddr (Has.t rfl) fld37_0 ty4) rfl ?_
  refine st (OK1.load1 (Has.t rfl) (i := 1) rfl ty4 rfl) rfl ?_
  refine st (OK1.not (Has.t rfl)) rfl ?_
  refine st (OK1.call (zint_From (by first | with_reducible assumption | omega | (simp only [val_words, zv_nf]; omega) | (simp only [val_words]; exact Nat.le_trans (nw_small' (by omega)) (by decide)))) (.cons (Has.t rfl) (.cons (Has.t rfl) .nil))) rfl ?_
  refine Ops.store (Has.t rfl) (Has.t rfl) (i := 0) rfl ty37 rfl rfl (Ss' := [_, _]) rfl (M' := [(some _, cellM [_, _]), _]) rfl ?_
  refine nl ?_
  refine At.thn (hK2 _ _ ?_); clear hK2
  refine Tri.cv (Cv.wk (.cons (t := 2) (Has.t rfl) .nil)) ?_
  refine Tri.ret ?_
  refine rt1 (.inl rfl) Try.results27 rfl (.cell rfl (i := 0) rfl ty37 rfl ?_ .nil)
  · exact isZ_eq (zv_not m xs)
set_option maxHeartbeats 4000000 in
theorem zint_Abs {m : Bool} {xs : List Nat} (hx : (List.length (words (val xs))) < 4294900000) : Ctr Try.prog 74 [Flat [isB m, isWords xs]] (isZ (((zv m xs).natAbs : Nat) : Int)) := by
  refine Ctr.intro Try.func74 rfl (by kernel_rfl) Try.ntmps74 rfl fun w0 F0 => ?_
  refine Tri.cv (Cv.wk (.cons (t := 0) (Has.t rfl) .nil)) ?_
  refine Tri.fact (Has.okZ (Has.t (t := 0) rfl)) fun okz0 => ?_
  refine Tri.seq fun K1 hK1 => ?_
  refine Tri.region ?_
  refine Ops.box (Has.t rfl) rfl fun b1 => ?_
  refine Ops.alloc [isB false, SlM isU []] zero37 (fun _ _ => ⟨rfl, nilM _ _, trivial⟩) rfl fun b2 => ?_
  refine nl ?_
  refine At.thn (hK1 _ _ ?_); clear hK1
  refine Tri.seq fun K2 hK2 => ?_
  refine Tri.region ?_
  refine st (OK1.fieldAddr (Has.t rfl) fld37_1 ty35) rfl ?_
  refine st (OK1.load1 (Has.t rfl) (i := 1) rfl ty35 rfl) rfl ?_
  refine st (OK1.call (zint_From (by first | with_reducible assumption | omega | (simp only [val_words, zv_nf]; omega) | (simp only [val_words]; exact Nat.le_trans (nw_small' (by omega)) (by decide)))) (.cons (Has.t rfl) (.cons (Has.cB false) .nil))) rfl ?_
  refine Ops.store (Has.t rfl) (Has.t rfl) (i := 0) rfl ty37 rfl rfl (Ss' := [_, _]) rfl (M' := [(some _, cellM [_, _]), _]) rfl ?_
  refine nl ?_
  refine At.thn (hK2 _ _ ?_); clear hK2
  refine Tri.cv (Cv.wk (.cons (t := 2) (Has.t rfl) .nil)) ?_
  refine Tri.ret ?_
  refine rt1 (.inl rfl) Try.results74 rfl (.cell rfl (i := 0) rfl ty37 rfl ?_ .nil)
  · exact isZ_eq (by rw [zv_abs]; exact zv_false xs)
set_option maxHeartbeats 4000000 in
theorem zint_Add {m n : Bool} {xs ys : List Nat} (hx : (List.length (words (val xs))) < 4294700000) (hy : (List.length (words (val ys))) < 4294700000) : Ctr Try.prog 36 [Flat [isB m, isWords xs], Flat [isB n, isWords ys]] (isZ (zv m xs + zv n ys)) := by
  refine Ctr.intro Try.func36 rfl (by kernel_rfl) Try.ntmps36 rfl fun w0 F0 => ?_
  refine Tri.cv (Cv.wk (.cons (t := 0) (Has.t rfl) (.cons (t := 1) (Has.t rfl) .nil))) ?_
  refine Tri.fact (Has.okZ (Has.t (t := 0) rfl)) fun okz0 => ?_
  refine Tri.fact (Has.okZ (Has.t (t := 1) rfl)) fun okz1 => ?_
  have ha := nw_add_le (val xs) (val ys)
  have hb := nw_mono (Nat.sub_le (val xs) (val ys))
  have hd := nw_mono (Nat.sub_le (val ys) (val xs))
  refine Tri.seq fun K1 hK1 => ?_
  refine Tri.region ?_
  refine Ops.box (Has.t rfl) rfl fun b1 => ?_
  refine Ops.box (Has.t rfl) rfl fun b2 => ?_
  refine Ops.alloc [isB false, SlM isU []] zero37 (fun _ _ => ⟨rfl, nilM _ _, trivial⟩) rfl fun b3 => ?_
  refine nl ?_
  refine At.thn (hK1 _ _ ?_); clear hK1
  refine Tri.seq fun K2 hK2 => ?_
  refine Tri.seq fun K3 hK3 => ?_
  refine Tri.region ?_
  refine st (OK1.fieldAddr (Has.t rfl) fld37_0 ty4) rfl ?_
  refine st (OK1.load1 (Has.t rfl) (i := 2) rfl ty4 rfl) rfl ?_
  refine st (OK1.fieldAddr (Has.t rfl) fld37_0 ty4) rfl ?_
  refine st (OK1.load1 (Has.t rfl) (i := 1) rfl ty4 rfl) rfl ?_
  refine st (OK1.eqB (du := un4) rfl (Has.t rfl) (Has.t rfl)) rfl ?_
  refine nl ?_
  refine At.thn (hK3 _ _ ?_); clear hK3
  refine Tri.cv (Cv.wk (.cons (t := 2) (Has.t rfl) (.cons (t := 3) (Has.t rfl) (.cons (t := 4) (Has.t rfl) (.cons (t := 13) (Has.t rfl) .nil))))) ?_
  refine Tri.cond (Has.t rfl) (fun hc1 => ?_) (fun hc1 => ?_)
  · have hc1 := BP.t hc1
    have HM : m = n := eq_of_beq hc1
    refine Tri.seq fun K4 hK4 => ?_
    refine Tri.dr ?_
    refine DrG.st (i := 0) [] rfl rfl rfl (by kernel_rfl) (OKG.o rfl (OK1.fieldAddr (Has.t rfl) fld37_1 ty35)) ?_
    refine DrG.st (i := 1) [14] rfl rfl rfl (by kernel_rfl) (OKG.o rfl (OK1.load1 (Has.t rfl) (i := 2) rfl ty35 rfl)) ?_
    refine DrG.st (i := 2) [] rfl rfl rfl (by kernel_rfl) (OKG.o rfl (OK1.fieldAddr (Has.t rfl) fld37_1 ty35)) ?_
    refine DrG.st (i := 3) [16] rfl rfl rfl (by kernel_rfl) (OKG.o rfl (OK1.load1 (Has.t rfl) (i := 1) rfl ty35 rfl)) ?_
    refine DrG.st (i := 4) [15, 17] rfl rfl rfl (by kernel_rfl) (OKG.o rfl (OK1.call (nat_Add (by first | with_reducible assumption | omega | (simp only [val_words, zv_nf]; omega) | (simp only [val_words]; exact Nat.le_trans (nw_small' (by omega)) (by decide))) (by first | with_reducible assumption | omega | (simp only [val_words, zv_nf]; omega) | (simp only [val_words]; exact Nat.le_trans (nw_small' (by omega)) (by decide)))) (.cons (Has.t rfl) (.cons (Has.t rfl) .nil)))) ?_
    refine DrG.st (i := 5) [] rfl rfl rfl (by kernel_rfl) (OKG.o rfl (OK1.fieldAddr (Has.t rfl) fld37_0 ty4)) ?_
    refine DrG.st (i := 6) [19] rfl rfl rfl (by kernel_rfl) (OKG.o rfl (OK1.load1 (Has.t rfl) (i := 2) rfl ty4 rfl)) ?_
    refine DrG.fin (n := 7) mixed (by kernel_rfl) (by kernel_rfl) (by kernel_rfl) ?_
    refine Ops.cv (Cv.wk (.cons (t := 2) (Has.t rfl) (.cons (t := 3) (Has.t rfl) (.cons (t := 4) (Has.t rfl) (.cons (t := 18) (Has.t rfl) (.cons (t := 20) (Has.t rfl) .nil)))))) ?_
    refine st (OK1.call (zint_From (by first | with_reducible assumption | omega | (simp only [val_words, zv_nf]; omega) | (simp only [val_words]; exact Nat.le_trans (nw_small' (by omega)) (by decide)))) (.cons (Has.t rfl) (.cons (Has.t rfl) .nil))) rfl ?_
    refine Ops.store (Has.t rfl) (Has.t rfl) (i := 0) rfl ty37 rfl rfl (Ss' := [_, _]) rfl (M' := [(some _, cellM [_, _]), _, _]) rfl ?_
    refine nl ?_
    refine At.thn (hK4 _ _ ?_); clear hK4
    refine Tri.ret ?_
    refine At.thr ?_
    refine rt1 (.inl rfl) Try.results36 rfl (.cell rfl (i := 0) rfl ty37 rfl ?_ .nil)
    · exact isZ_eq (zv_add_same HM xs ys).symm
  · have hc1 := BP.f hc1
    have HM : m ≠ n := fun e => by rw [e] at hc1; simp at hc1
    refine Tri.skip ?_
    refine At.thn (hK2 _ _ ?_); clear hK2
    refine Tri.seq fun K5 hK5 => ?_
    refine Tri.seq fun K6 hK6 => ?_
    refine Tri.region ?_
    refine st (OK1.fieldAddr (Has.t rfl) fld37_1 ty35) rfl ?_
    refine st (OK1.load1 (Has.t rfl) (i := 2) rfl ty35 rfl) rfl ?_
    refine st (OK1.fieldAddr (Has.t rfl) fld37_1 ty35) rfl ?_
    refine st (OK1.load1 (Has.t rfl) (i := 1) rfl ty35 rfl) rfl ?_
    refine st (OK1.call (nat_Sub (by first | with_reducible assumption | omega | (simp only [val_words, zv_nf]; omega) | (simp only [val_words]; exact Nat.le_trans (nw_small' (by omega)) (by decide)))) (.cons (Has.t rfl) (.cons (Has.t rfl) .nil))) rfl ?_
    refine st (OK1.mv (Has.t rfl)) rfl ?_
    refine st (OK1.ext (Has.t rfl) rfl) rfl ?_
    refine st (OK1.ext (Has.t rfl) rfl) rfl ?_
    refine st (OK1.as (Has.t rfl)) rfl ?_
    refine st (OK1.as (Has.t rfl)) rfl ?_
    refine nl ?_
    refine At.thn (hK6 _ _ ?_); clear hK6
    refine Tri.cv (Cv.wk (.cons (t := 2) (Has.t rfl) (.cons (t := 3) (Has.t rfl) (.cons (t := 4) (Has.t rfl) (.cons (t := 5) (Has.t rfl) (.cons (t := 6) (Has.t rfl) .nil)))))) ?_
    refine Tri.seq fun K7 hK7 => ?_
    refine Tri.region ?_
    refine st (OK1.mv (Has.t rfl)) rfl ?_
    refine nl ?_
    refine At.thn (hK7 _ _ ?_); clear hK7
    refine Tri.cond (Has.t rfl) (fun hc2 => ?_) (fun hc2 => ?_)
    · have hc2 := BP.t hc2
      have HL : val ys ≤ val xs := hc2
      refine Tri.seq fun K8 hK8 => ?_
      refine Tri.region ?_
      refine st (OK1.mv (Has.t rfl)) rfl ?_
      refine st (OK1.fieldAddr (Has.t rfl) fld37_0 ty4) rfl ?_
      refine st (OK1.load1 (Has.t rfl) (i := 2) rfl ty4 rfl) rfl ?_
      refine st (OK1.call (zint_From (by first | with_reducible assumption | omega | (simp only [val_words, zv_nf]; omega) | (simp only [val_words]; exact Nat.le_trans (nw_small' (by omega)) (by decide)))) (.cons (Has.t rfl) (.cons (Has.t rfl) .nil))) rfl ?_
      refine Ops.store (Has.t rfl) (Has.t rfl) (i := 0) rfl ty37 rfl rfl (Ss' := [_, _]) rfl (M' := [(some _, cellM [_, _]), _, _]) rfl ?_
      refine nl ?_
      refine At.thn (hK8 _ _ ?_); clear hK8
      refine Tri.cv (Cv.wk (.cons (t := 2) (Has.t rfl) (.cons (t := 3) (Has.t rfl) (.cons (t := 4) (Has.t rfl) .nil)))) ?_
      refine Tri.ret ?_
      refine At.thr ?_
      refine rt1 (.inl rfl) Try.results36 rfl (.cell rfl (i := 0) rfl ty37 rfl ?_ .nil)
      · exact isZ_eq (zv_add_sub HM HL).symm
    · have hc2 := BP.f hc2
      have HL : ¬ val ys ≤ val xs := (by omega)
      refine Tri.skip ?_
      refine At.thn (hK5 _ _ ?_); clear hK5
      refine Tri.seq fun K9 hK9 => ?_
      refine Tri.region ?_
      refine st (OK1.fieldAddr (Has.t rfl) fld37_1 ty35) rfl ?_
      refine st (OK1.load1 (Has.t rfl) (i := 1) rfl ty35 rfl) rfl ?_
      refine st (OK1.fieldAddr (Has.t rfl) fld37_1 ty35) rfl ?_
      refine st (OK1.load1 (Has.t rfl) (i := 2) rfl ty35 rfl) rfl ?_
      refine st (OK1.call (nat_Sub (by first | with_reducible assumption | omega | (simp only [val_words, zv_nf]; omega) | (simp only [val_words]; exact Nat.le_trans (nw_small' (by omega)) (by decide)))) (.cons (Has.t rfl) (.cons (Has.t rfl) .nil))) rfl ?_
      refine st (OK1.mv (Has.t rfl)) rfl ?_
      refine st (OK1.ext (Has.t rfl) rfl) rfl ?_
      refine st (OK1.ext (Has.t rfl) rfl) rfl ?_
      refine st (OK1.as (Has.t rfl)) rfl ?_
      refine st (OK1.as (Has.t rfl)) rfl ?_
      refine nl ?_
      refine At.thn (hK9 _ _ ?_); clear hK9
      refine Tri.cv (Cv.wk (.cons (t := 3) (Has.t rfl) (.cons (t := 4) (Has.t rfl) (.cons (t := 7) (Has.t rfl) .nil)))) ?_
      refine Tri.seq fun K10 hK10 => ?_
      refine Tri.region ?_
      refine st (OK1.mv (Has.t rfl)) rfl ?_
      refine st (OK1.fieldAddr (Has.t rfl) fld37_0 ty4) rfl ?_
      refine st (OK1.load1 (Has.t rfl) (i := 1) rfl ty4 rfl) rfl ?_
      refine st (OK1.call (zint_From (by first | with_reducible assumption | omega | (simp only [val_words, zv_nf]; omega) | (simp only [val_words]; exact Nat.le_trans (nw_small' (by omega)) (by decide)))) (.cons (Has.t rfl) (.cons (Has.t rfl) .nil))) rfl ?_
      refine Ops.store (Has.t rfl) (Has.t rfl) (i := 0) rfl ty37 rfl rfl (Ss' := [_, _]) rfl (M' := [(some _, cellM [_, _]), _, _]) rfl ?_
      refine nl ?_
      refine At.thn (hK10 _ _ ?_); clear hK10
      refine Tri.cv (Cv.wk (.cons (t := 4) (Has.t rfl) .nil)) ?_
      refine Tri.ret ?_
      refine rt1 (.inl rfl) Try.results36 rfl (.cell rfl (i := 0) rfl ty37 rfl ?_ .nil)
      · exact isZ_eq (by rw [Int.add_comm]; exact (zv_add_sub (fun e => HM e.symm) (by omega)).symm)
set_option maxHeartbeats 4000000 in
theorem zint_Sub {m n : Bool} {xs ys : List Nat} (hx : (List.length (words (val xs))) < 4294700000) (hy : (List.length (words (val ys))) < 4294700000) : Ctr Try.prog 50 [Flat [isB m, isWords xs], Flat [isB n, isWords ys]] (isZ (zv m xs - zv n ys)) := by
  refine Ctr.intro Try.func50 rfl (by kernel_rfl) Try.ntmps50 rfl fun w0 F0 => ?_
  refine Tri.cv (Cv.wk (.cons (t := 0) (Has.t rfl) (.cons (t := 1) (Has.t rfl) .nil))) ?_
  refine Tri.fact (Has.okZ (Has.t (t := 0) rfl)) fun okz0 => ?_
  refine Tri.fact (Has.okZ (Has.t (t := 1) rfl)) fun okz1 => ?_
  refine Tri.seq fun K1 hK1 => ?_
  refine Tri.region ?_
  refine Ops.box (Has.t rfl) rfl fun b1 => ?_
  refine Ops.box (Has.t rfl) rfl fun b2 => ?_
  refine Ops.alloc [isB false, SlM isU []] zero37 (fun _ _ => ⟨rfl, nilM _ _, trivial⟩) rfl fun b3 => ?_
  refine nl ?_
  refine At.thn (hK1 _ _ ?_); clear hK1
  refine Tri.seq fun K2 hK2 => ?_
  refine Tri.dr ?_
  refine DrG.st (i := 0) [] rfl rfl rfl (by kernel_rfl) (OKG.o rfl (OK1.load (Has.t rfl) (i := 2) rfl ty37 rfl (Ss' := [_, _]) rfl)) ?_
  refine DrG.st (i := 1) [] rfl rfl rfl (by kernel_rfl) (OKG.o rfl (OK1.load (Has.t rfl) (i := 1) rfl ty37 rfl (Ss' := [_, _]) rfl)) ?_
  refine DrG.st (i := 2) [6] rfl rfl rfl (by kernel_rfl) (OKG.o rfl (OK1.call (zint_Neg (by first | with_reducible assumption | omega | (simp only [val_words, zv_nf]; omega) | (simp only [val_words]; exact Nat.le_trans (nw_small' (by omega)) (by decide)))) (.cons (Has.t rfl) .nil))) ?_
  refine DrG.fin (n := 3) mixed (by kernel_rfl) (by kernel_rfl) (by kernel_rfl) ?_
  refine Ops.cv (Cv.wk (.cons (t := 4) (Has.t rfl) (.cons (t := 5) (Has.t rfl) (.cons (t := 7) (Has.t rfl) .nil)))) ?_
  refine st (OK1.call (zint_Add (by omega) (by simp only [val_words]; rw [Int.natAbs_neg, zv_abs]; omega)) (.cons (Has.t rfl) (.cons (Has.t rfl) .nil))) rfl ?_
  refine Ops.store (Has.t rfl) (Has.t rfl) (i := 0) rfl ty37 rfl rfl (Ss' := [_, _]) rfl (M' := [(some _, cellM [_, _]), _, _]) rfl ?_
  refine nl ?_
  refine At.thn (hK2 _ _ ?_); clear hK2
  refine Tri.ret ?_
  refine rt1 (.inl rfl) Try.results50 rfl (.cell rfl (i := 0) rfl ty37 rfl ?_ .nil)
  · exact isZ_eq (by rw [zv_nf]; omega)
set_option maxHeartbeats 4000000 in
theorem zint_Mul {m n : Bool} {xs ys : List Nat} (hx : (List.length (words (val xs))) ≤ 1000000000) (hy : (List.length (words (val ys))) ≤ 1000000000) : Ctr Try.prog 37 [Flat [isB m, isWords xs], Flat [isB n, isWords ys]] (isZ (zv m xs * zv n ys)) := by
  refine Ctr.intro Try.func37 rfl (by kernel_rfl) Try.ntmps37 rfl fun w0 F0 => ?_
  refine Tri.cv (Cv.wk (.cons (t := 0) (Has.t rfl) (.cons (t := 1) (Has.t rfl) .nil))) ?_
  refine Tri.fact (Has.okZ (Has.t (t := 0) rfl)) fun okz0 => ?_
  refine Tri.fact (Has.okZ (Has.t (t := 1) rfl)) fun okz1 => ?_
  have hm := nw_mul_le (val xs) (val ys)
  refine Tri.seq fun K1 hK1 => ?_
  refine Tri.region ?_
  refine Ops.box (Has.t rfl) rfl fun b1 => ?_
  refine Ops.box (Has.t rfl) rfl fun b2 => ?_
  refine Ops.alloc [isB false, SlM isU []] zero37 (fun _ _ => ⟨rfl, nilM _ _, trivial⟩) rfl fun b3 => ?_
  refine nl ?_
  refine At.thn (hK1 _ _ ?_); clear hK1
  refine Tri.seq fun K2 hK2 => ?_
  refine Tri.dr ?_
  refine DrG.st (i := 0) [] rfl rfl rfl (by kernel_rfl) (OKG.o rfl (OK1.fieldAddr (Has.t rfl) fld37_1 ty35)) ?_
  refine DrG.st (i := 1) [5] rfl rfl rfl (by kernel_rfl) (OKG.o rfl (OK1.load1 (Has.t rfl) (i := 2) rfl ty35 rfl)) ?_
  refine DrG.st (i := 2) [] rfl rfl rfl (by kernel_rfl) (OKG.o rfl (OK1.fieldAddr (Has.t rfl) fld37_1 ty35)) ?_
  refine DrG.st (i := 3) [7] rfl rfl rfl (by kernel_rfl) (OKG.o rfl (OK1.load1 (Has.t rfl) (i := 1) rfl ty35 rfl)) ?_
  refine DrG.st (i := 4) [6, 8] rfl rfl rfl (by kernel_rfl) (OKG.o rfl (OK1.call (mul_Mul hx hy) (.cons (Has.t rfl) (.cons (Has.t rfl) .nil)))) ?_
  refine DrG.st (i := 5) [] rfl rfl rfl (by kernel_rfl) (OKG.o rfl (OK1.fieldAddr (Has.t rfl) fld37_0 ty4)) ?_
  refine DrG.st (i := 6) [10] rfl rfl rfl (by kernel_rfl) (OKG.o rfl (OK1.load1 (Has.t rfl) (i := 2) rfl ty4 rfl)) ?_
  refine DrG.st (i := 7) [] rfl rfl rfl (by kernel_rfl) (OKG.o rfl (OK1.fieldAddr (Has.t rfl) fld37_0 ty4)) ?_
  refine DrG.st (i := 8) [12] rfl rfl rfl (by kernel_rfl) (OKG.o rfl (OK1.load1 (Has.t rfl) (i := 1) rfl ty4 rfl)) ?_
  refine DrG.st (i := 9) [11, 13] rfl rfl rfl (by kernel_rfl) (OKG.o rfl (OK1.neB (du := un4) rfl (Has.t rfl) (Has.t rfl))) ?_
  refine DrG.fin (n := 10) mixed (by kernel_rfl) (by kernel_rfl) (by kernel_rfl) ?_
  refine Ops.cv (Cv.wk (.cons (t := 4) (Has.t rfl) (.cons (t := 9) (Has.t rfl) (.cons (t := 14) (Has.t rfl) .nil)))) ?_
  refine st (OK1.call (zint_From (by first | with_reducible assumption | omega | (simp only [val_words, zv_nf]; omega) | (simp only [val_words]; exact Nat.le_trans (nw_small' (by omega)) (by decide)))) (.cons (Has.t rfl) (.cons (Has.t rfl) .nil))) rfl ?_
  refine Ops.store (Has.t rfl) (Has.t rfl) (i := 0) rfl ty37 rfl rfl (Ss' := [_, _]) rfl (M' := [(some _, cellM [_, _]), _, _]) rfl ?_
  refine nl ?_
  refine At.thn (hK2 _ _ ?_); clear hK2
  refine Tri.ret ?_
  refine rt1 (.inl rfl) Try.results37 rfl (.cell rfl (i := 0) rfl ty37 rfl ?_ .nil)
  · exact isZ_eq (zv_mul m n xs ys).symm
set_option maxHeartbeats 4000000 in
theorem zint_Quo {m n : Bool} {xs ys : List Nat} (hx : (List.length (words (val xs))) < 4294700000) (hy : (List.length (words (val ys))) < 4294700000) : Ctr Try.prog 49 [Flat [isB m, isWords xs], Flat [isB n, isWords ys]] (isTup [isZ ((zv m xs).tdiv (zv n ys)), isZ (if zv n ys = 0 then 0 else (zv m xs).tmod (zv n ys)), isB (decide (zv n ys ≠ 0))]) := by
  refine Ctr.intro Try.func49 rfl (by kernel_rfl) Try.ntmps49 rfl fun w0 F0 => ?_
  refine Tri.cv (Cv.wk (.cons (t := 0) (Has.t rfl) (.cons (t := 1) (Has.t rfl) .nil))) ?_
  refine Tri.fact (Has.okZ (Has.t (t := 0) rfl)) fun okz0 => ?_
  refine Tri.fact (Has.okZ (Has.t (t := 1) rfl)) fun okz1 => ?_
  have ha := nw_mono (Nat.div_le_self (val xs) (val ys))
  have hb : (List.length (words (if val ys = 0 then 0 else val xs % val ys))) ≤ (List.length (words (val xs))) := nw_mono (by split; exact Nat.zero_le _; exact Nat.mod_le _ _)
  refine Tri.seq fun K1 hK1 => ?_
  refine Tri.region ?_
  refine Ops.box (Has.t rfl) rfl fun b1 => ?_
  refine Ops.box (Has.t rfl) rfl fun b2 => ?_
  refine Ops.alloc [isB false, SlM isU []] zero37 (fun _ _ => ⟨rfl, nilM _ _, trivial⟩) rfl fun b3 => ?_
  refine Ops.alloc [isB false, SlM isU []] zero37 (fun _ _ => ⟨rfl, nilM _ _, trivial⟩) rfl fun b4 => ?_
  refine st (OK1.as (Has.cB false)) rfl ?_
  refine nl ?_
  refine At.thn (hK1 _ _ ?_); clear hK1
  refine Tri.seq fun K2 hK2 => ?_
  refine Tri.region ?_
  refine st (OK1.fieldAddr (Has.t rfl) fld37_1 ty35) rfl ?_
  refine st (OK1.load1 (Has.t rfl) (i := 3) rfl ty35 rfl) rfl ?_
  refine st (OK1.fieldAddr (Has.t rfl) fld37_1 ty35) rfl ?_
  refine st (OK1.load1 (Has.t rfl) (i := 2) rfl ty35 rfl) rfl ?_
  refine st (OK1.call (div_DivMod (by first | with_reducible assumption | omega | (simp only [val_words, zv_nf]; omega) | (simp only [val_words]; exact Nat.le_trans (nw_small' (by omega)) (by decide))) (by first | with_reducible assumption | omega | (simp only [val_words, zv_nf]; omega) | (simp only [val_words]; exact Nat.le_trans (nw_small' (by omega)) (by decide)))) (.cons (Has.t rfl) (.cons (Has.t rfl) .nil))) rfl ?_
  refine st (OK1.mv (Has.t rfl)) rfl ?_
  refine st (OK1.ext (Has.t rfl) rfl) rfl ?_
  refine st (OK1.ext (Has.t rfl) rfl) rfl ?_
  refine st (OK1.ext (Has.t rfl) rfl) rfl ?_
  refine st (OK1.as (Has.t rfl)) rfl ?_
  refine st (OK1.as (Has.t rfl)) rfl ?_
  refine st (OK1.as (Has.t rfl)) rfl ?_
  refine nl ?_
  refine At.thn (hK2 _ _ ?_); clear hK2
  refine Tri.cv (Cv.wk (.cons (t := 2) (Has.t rfl) (.cons (t := 3) (Has.t rfl) (.cons (t := 4) (Has.t rfl) (.cons (t := 5) (Has.t rfl) (.cons (t := 6) (Has.t rfl) (.cons (t := 7) (Has.t rfl) (.cons (t := 8) (Has.t rfl) (.cons (t := 9) (Has.t rfl) .nil))))))))) ?_
  refine Tri.seq fun K3 hK3 => ?_
  refine Tri.drh [false, false, true, true] (Ms := [_, _]) rfl ?_
  refine DrH.st (i := 0) [] rfl rfl rfl (by kernel_rfl) (OKG.o rfl (OK1.mv (Has.t rfl))) ?_
  refine DrH.st (i := 1) [] rfl rfl rfl (by kernel_rfl) (OKG.o rfl (OK1.fieldAddr (Has.t rfl) fld37_0 ty4)) ?_
  refine DrH.st (i := 2) [20] rfl rfl rfl (by kernel_rfl) (OKG.o rfl (OK1.load1 (Has.t rfl) (i := 1) rfl ty4 rfl)) ?_
  refine DrH.st (i := 3) [] rfl rfl rfl (by kernel_rfl) (OKG.o rfl (OK1.fieldAddr (Has.t rfl) fld37_0 ty4)) ?_
  refine DrH.st (i := 4) [22] rfl rfl rfl (by kernel_rfl) (OKG.o rfl (OK1.load1 (Has.t rfl) (i := 0) rfl ty4 rfl)) ?_
  refine DrH.st (i := 5) [21, 23] rfl rfl rfl (by kernel_rfl) (OKG.o rfl (OK1.neB (du := un4) rfl (Has.t rfl) (Has.t rfl))) ?_
  refine DrH.st (i := 6) [19, 24] rfl rfl rfl (by kernel_rfl) (OKG.o rfl (OK1.call (zint_From (by first | with_reducible assumption | omega | (simp only [val_words, zv_nf]; omega) | (simp only [val_words]; exact Nat.le_trans (nw_small' (by omega)) (by decide)))) (.cons (Has.t rfl) (.cons (Has.t rfl) .nil)))) ?_
  refine DrH.st (i := 7) [] rfl rfl rfl (by kernel_rfl) (OKG.o rfl (OK1.mv (Has.t rfl))) ?_
  refine DrH.st (i := 8) [] rfl rfl rfl (by kernel_rfl) (OKG.o rfl (OK1.fieldAddr (Has.t rfl) fld37_0 ty4)) ?_
  refine DrH.st (i := 9) [27] rfl rfl rfl (by kernel_rfl) (OKG.o rfl (OK1.load1 (Has.t rfl) (i := 1) rfl ty4 rfl)) ?_
  refine DrH.st (i := 10) [26, 28] rfl rfl rfl (by kernel_rfl) (OKG.o rfl (OK1.call (zint_From (by first | with_reducible assumption | omega | (simp only [val_words, zv_nf]; omega) | (simp only [val_words]; exact Nat.le_trans (nw_small' (by omega)) (by decide)))) (.cons (Has.t rfl) (.cons (Has.t rfl) .nil)))) ?_
  refine DrH.st (i := 11) [] rfl rfl rfl (by kernel_rfl) (OKG.o rfl (OK1.mv (Has.t rfl))) ?_
  refine DrH.mid (.cons _ (.cons _ (.cons_cons _ (.cons_cons _ .slnil)))) ?_
  refine DrM.st [25] rfl rfl (by kernel_rfl) (by kernel_rfl) (StS.store (Has.t rfl) (Has.t rfl) (i := 1) rfl ty37 rfl rfl (Ss' := [_, _]) rfl (M' := [_, (some _, cellM [_, _]), _, _]) rfl) (.cons _ (.cons _ (.cons_cons _ (.cons_cons _ .slnil)))) ?_
  refine DrM.st [29] rfl rfl (by kernel_rfl) (by kernel_rfl) (StS.store (Has.t rfl) (Has.t rfl) (i := 0) rfl ty37 rfl rfl (Ss' := [_, _]) rfl (M' := [(some _, cellM [_, _]), _, _, _]) rfl) (.cons _ (.cons _ (.cons_cons _ (.cons_cons _ .slnil)))) ?_
  refine DrM.fin (n := 14) mixed rfl (by kernel_rfl) (by kernel_rfl) (by kernel_rfl) ?_
  refine Ops.cv (Cv.wk (.cons (t := 4) (Has.t rfl) (.cons (t := 5) (Has.t rfl) (.cons (t := 6) (Has.t rfl) (.cons (t := 30) (Has.t rfl) .nil))))) ?_
  refine st (OK1.as (Has.t rfl)) rfl ?_
  refine nl ?_
  refine At.thn (hK3 _ _ ?_); clear hK3
  refine Tri.ret ?_
  refine rtN (.inl rfl) Try.results49 rfl rfl (.cell rfl (i := 1) rfl ty37 rfl ?_ (.cell rfl (i := 0) rfl ty37 rfl ?_ (.tmp (Has.t' rfl ?_) .nil)))
  · exact isZ_eq (zv_tdiv m n xs ys).symm
  · exact isZ_eq (quo_rest m n xs ys)
  · exact isB_eq (ne_zv n ys)
set_option maxHeartbeats 4000000 in
theorem zint_one  : Ctr Try.prog 51 [] (isZ 1) := by
  refine Ctr.intro Try.func51 rfl (by kernel_rfl) Try.ntmps51 rfl fun w0 F0 => ?_
  refine Tri.cv (Cv.wk .nil) ?_
  refine Tri.seq fun K1 hK1 => ?_
  refine Tri.region ?_
  refine Ops.alloc [isB false, SlM isU []] zero37 (fun _ _ => ⟨rfl, nilM _ _, trivial⟩) rfl fun b1 => ?_
  refine nl ?_
  refine At.thn (hK1 _ _ ?_); clear hK1
  refine Tri.seq fun K2 hK2 => ?_
  refine Tri.region ?_
  refine st (OK1.call (zint_Of) (.cons (Has.cI 1 rfl) .nil)) rfl ?_
  refine Ops.store (Has.t rfl) (Has.t rfl) (i := 0) rfl ty37 rfl rfl (Ss' := [_, _]) rfl (M' := [(some _, cellM [_, _])]) rfl ?_
  refine nl ?_
  refine At.thn (hK2 _ _ ?_); clear hK2
  refine Tri.ret ?_
  refine rt1 (.inl rfl) Try.results51 rfl (.cell rfl (i := 0) rfl ty37 rfl ?_ .nil)
  all_goals (rfl)
set_option maxHeartbeats 4000000 in
theorem zint_Euclid {m n : Bool} {xs ys : List Nat} (hx : (List.length (words (val xs))) < 4294700000) (hy : (List.length (words (val ys))) < 4294700000) : Ctr Try.prog 76 [Flat [isB m, isWords xs], Flat [isB n, isWords ys]] (isTup [isZ (zv m xs / zv n ys), isZ (if zv n ys = 0 then 0 else zv m xs % zv n ys), isB (decide (zv n ys ≠ 0))]) := by
  refine Ctr.intro Try.func76 rfl (by kernel_rfl) Try.ntmps76 rfl fun w0 F0 => ?_
  refine Tri.cv (Cv.wk (.cons (t := 0) (Has.t rfl) (.cons (t := 1) (Has.t rfl) .nil))) ?_
  refine Tri.fact (Has.okZ (Has.t (t := 0) rfl)) fun okz0 => ?_
  refine Tri.fact (Has.okZ (Has.t (t := 1) rfl)) fun okz1 => ?_
  have ha := nz_tdiv (zv m xs) (zv n ys)
  have hb := nz_if (zv m xs) (zv n ys)
  have hxx := zv_nw m xs
  have hyy := zv_nw n ys
  have h1 := nz_one
  refine Tri.seq fun K1 hK1 => ?_
  refine Tri.region ?_
  refine Ops.box (Has.t rfl) rfl fun b1 => ?_
  refine Ops.box (Has.t rfl) rfl fun b2 => ?_
  refine Ops.alloc [isB false, SlM isU []] zero37 (fun _ _ => ⟨rfl, nilM _ _, trivial⟩) rfl fun b3 => ?_
  refine Ops.alloc [isB false, SlM isU []] zero37 (fun _ _ => ⟨rfl, nilM _ _, trivial⟩) rfl fun b4 => ?_
  refine st (OK1.as (Has.cB false)) rfl ?_
  refine nl ?_
  refine At.thn (hK1 _ _ ?_); clear hK1
  refine Tri.seq fun K2 hK2 => ?_
  refine Tri.region ?_
  refine st (OK1.load (Has.t rfl) (i := 3) rfl ty37 rfl (Ss' := [_, _]) rfl) rfl ?_
  refine st (OK1.load (Has.t rfl) (i := 2) rfl ty37 rfl (Ss' := [_, _]) rfl) rfl ?_
  refine st (OK1.call (zint_Quo (by first | with_reducible assumption | omega | (simp only [val_words, zv_nf]; omega) | (simp only [val_words]; exact Nat.le_trans (nw_small' (by omega)) (by decide))) (by first | with_reducible assumption | omega | (simp only [val_words, zv_nf]; omega) | (simp only [val_words]; exact Nat.le_trans (nw_small' (by omega)) (by decide)))) (.cons (Has.t rfl) (.cons (Has.t rfl) .nil))) rfl ?_
  refine st (OK1.mv (Has.t rfl)) rfl ?_
  refine st (OK1.ext (Has.t rfl) rfl) rfl ?_
  refine st (OK1.ext (Has.t rfl) rfl) rfl ?_
  refine st (OK1.ext (Has.t rfl) rfl) rfl ?_
  refine Ops.alloc [isB false, SlM isU []] zero37 (fun _ _ => ⟨rfl, nilM _ _, trivial⟩) rfl fun b5 => ?_
  refine Ops.alloc [isB false, SlM isU []] zero37 (fun _ _ => ⟨rfl, nilM _ _, trivial⟩) rfl fun b6 => ?_
  refine Ops.store (Has.t rfl) (Has.t rfl) (i := 1) rfl ty37 rfl rfl (Ss' := [_, _]) rfl (M' := [_, (some _, cellM [_, _]), _, _, _, _]) rfl ?_
  refine Ops.store (Has.t rfl) (Has.t rfl) (i := 0) rfl ty37 rfl rfl (Ss' := [_, _]) rfl (M' := [(some _, cellM [_, _]), _, _, _, _, _]) rfl ?_
  refine st (OK1.as (Has.t rfl)) rfl ?_
  refine nl ?_
  refine At.thn (hK2 _ _ ?_); clear hK2
  refine Tri.cv (Cv.wk (.cons (t := 3) (Has.t rfl) (.cons (t := 4) (Has.t rfl) (.cons (t := 5) (Has.t rfl) (.cons (t := 6) (Has.t rfl) (.cons (t := 7) (Has.t rfl) (.cons (t := 8) (Has.t rfl) (.cons (t := 9) (Has.t rfl) .nil)))))))) ?_
  refine Tri.seq fun K3 hK3 => ?_
  refine Tri.block ?_
  refine Tri.seq fun K4 hK4 => ?_
  refine Tri.region ?_
  refine st (OK1.mv (Has.t rfl)) rfl ?_
  refine st (OK1.not (Has.t rfl)) rfl ?_
  refine st (OK1.mv (Has.t rfl)) rfl ?_
  refine stF rfl rfl (fun hg => have hg' := BP.t hg; OK1.load (Has.t rfl) (i := 0) rfl ty37 rfl (Ss' := [_, _]) rfl) rfl ?_
  refine stF rfl rfl (fun hg => have hg' := BP.t hg; OK1.eq (OK1.call (zint_Sign (by first | with_reducible assumption | omega | (simp only [val_words, zv_nf]; omega) | (simp only [val_words]; exact Nat.le_trans (nw_small' (by omega)) (by decide)))) (.cons (Has.g rfl hg) .nil)) (by first | (simp only [val_words, zv_nf]; rfl) | rfl)) rfl ?_
  refine stF rfl rfl (fun hg => have hg' := BP.t hg; OK1.geI (Has.g rfl hg) (Has.cI 0 rfl)) rfl ?_
  refine st (OK1.pickOr (Has.t rfl) (fun h => Has.g rfl (ng h))) rfl ?_
  refine st (OK1.as (Has.t rfl)) rfl ?_
  refine nl ?_
  refine At.thn (hK4 _ _ ?_); clear hK4
  refine Tri.cv (Cv.wk (.cons (t := 3) (Has.t rfl) (.cons (t := 4) (Has.t rfl) (.cons (t := 5) (Has.t rfl) (.cons (t := 6) (Has.t rfl) (.cons (t := 7) (Has.t rfl) (.cons (t := 8) (Has.t rfl) (.cons (t := 9) (Has.t rfl) (.cons (t := 17) (Has.t rfl) .nil))))))))) ?_
  refine Tri.cond (Has.t rfl) (fun hc1 => ?_) (fun hc1 => ?_)
  · have hc1 := BP.t hc1
    have HE := euc0 hc1
    refine Tri.seq fun K5 hK5 => ?_
    refine Tri.drh [true, true, false, false, true, true] (Ms := [_, _, _, _]) rfl ?_
    refine DrH.st (i := 0) [] rfl rfl rfl (by kernel_rfl) (OKG.o rfl (OK1.load (Has.t rfl) (i := 1) rfl ty37 rfl (Ss' := [_, _]) rfl)) ?_
    refine DrH.st (i := 1) [] rfl rfl rfl (by kernel_rfl) (OKG.o rfl (OK1.load (Has.t rfl) (i := 0) rfl ty37 rfl (Ss' := [_, _]) rfl)) ?_
    refine DrH.st (i := 2) [] rfl rfl rfl (by kernel_rfl) (OKG.o rfl (OK1.mv (Has.t rfl))) ?_
    refine DrH.mid (.cons_cons _ (.cons_cons _ (.cons _ (.cons _ (.cons_cons _ (.cons_cons _ .slnil)))))) ?_
    refine DrM.st [25] rfl rfl (by kernel_rfl) (by kernel_rfl) (StS.store (Has.t rfl) (Has.t rfl) (i := 3) rfl ty37 rfl rfl (Ss' := [_, _]) rfl (M' := [_, _, _, (some _, cellM [_, _]), _, _]) rfl) (.cons_cons _ (.cons_cons _ (.cons _ (.cons _ (.cons_cons _ (.cons_cons _ .slnil)))))) ?_
    refine DrM.st [26] rfl rfl (by kernel_rfl) (by kernel_rfl) (StS.store (Has.t rfl) (Has.t rfl) (i := 2) rfl ty37 rfl rfl (Ss' := [_, _]) rfl (M' := [_, _, (some _, cellM [_, _]), _, _, _]) rfl) (.cons_cons _ (.cons_cons _ (.cons _ (.cons _ (.cons_cons _ (.cons_cons _ .slnil)))))) ?_
    refine DrM.fin (n := 5) mixed rfl (by kernel_rfl) (by kernel_rfl) (by kernel_rfl) ?_
    refine Ops.cv (Cv.wk (.cons (t := 3) (Has.t rfl) (.cons (t := 4) (Has.t rfl) (.cons (t := 5) (Has.t rfl) (.cons (t := 6) (Has.t rfl) (.cons (t := 7) (Has.t rfl) (.cons (t := 8) (Has.t rfl) (.cons (t := 27) (Has.t rfl) .nil)))))))) ?_
    refine st (OK1.as (Has.t rfl)) rfl ?_
    refine nl ?_
    refine At.thn (hK5 _ _ ?_); clear hK5
    refine Tri.ret ?_
    refine At.blr ?_
    refine At.thr ?_
    refine rtN (.inl rfl) Try.results76 rfl rfl (.cell rfl (i := 3) rfl ty37 rfl ?_ (.cell rfl (i := 2) rfl ty37 rfl ?_ (.tmp (Has.t' rfl ?_) .nil)))
    · exact isZ_eq HE.1
    · exact isZ_eq HE.2
    · rfl
  · have hc1 := BP.f hc1
    have HE := hc1
    refine Tri.seq fun K6 hK6 => ?_
    refine Tri.region ?_
    refine st (OK1.load (Has.t rfl) (i := 4) rfl ty37 rfl (Ss' := [_, _]) rfl) rfl ?_
    refine st (OK1.call (zint_Sign (by first | with_reducible assumption | omega | (simp only [val_words, zv_nf]; omega) | (simp only [val_words]; exact Nat.le_trans (nw_small' (by omega)) (by decide)))) (.cons (Has.t rfl) .nil)) rfl ?_
    refine st (OK1.gtI (Has.t rfl) (Has.cI 0 rfl)) rfl ?_
    refine st (OK1.as (Has.t rfl)) rfl ?_
    refine nl ?_
    refine At.thn (hK6 _ _ ?_); clear hK6
    refine Tri.cv (Cv.wk (.cons (t := 3) (Has.t rfl) (.cons (t := 4) (Has.t rfl) (.cons (t := 5) (Has.t rfl) (.cons (t := 6) (Has.t rfl) (.cons (t := 7) (Has.t rfl) (.cons (t := 8) (Has.t rfl) (.cons (t := 28) (Has.t rfl) .nil)))))))) ?_
    refine Tri.cond (Has.t rfl) (fun hc2 => ?_) (fun hc2 => ?_)
    · have hc2 := BP.t hc2
      have HE2 := euc1 HE hc2
      refine Tri.seq fun K7 hK7 => ?_
      refine Tri.dr ?_
      refine DrG.st (i := 0) [] rfl rfl rfl (by kernel_rfl) (OKG.o rfl (OK1.load (Has.t rfl) (i := 1) rfl ty37 rfl (Ss' := [_, _]) rfl)) ?_
      refine DrG.st (i := 1) [] rfl rfl rfl (by kernel_rfl) (OKG.o rfl (OK1.call (zint_one) .nil)) ?_
      refine DrG.st (i := 2) [32, 33] rfl rfl rfl (by kernel_rfl) (OKG.o rfl (OK1.eq (OK1.call (zint_Sub (by first | with_reducible assumption | omega | (simp only [val_words, zv_nf]; omega) | (simp only [val_words]; exact Nat.le_trans (nw_small' (by omega)) (by decide))) (by first | with_reducible assumption | omega | (simp only [val_words, zv_nf]; omega) | (simp only [val_words]; exact Nat.le_trans (nw_small' (by omega)) (by decide)))) (.cons (Has.t rfl) (.cons (Has.t rfl) .nil))) (by first | (simp only [val_words, zv_nf]; rfl) | rfl))) ?_
      refine DrG.st (i := 3) [] rfl rfl rfl (by kernel_rfl) (OKG.o rfl (OK1.load (Has.t rfl) (i := 0) rfl ty37 rfl (Ss' := [_, _]) rfl)) ?_
      refine DrG.st (i := 4) [] rfl rfl rfl (by kernel_rfl) (OKG.o rfl (OK1.load (Has.t rfl) (i := 4) rfl ty37 rfl (Ss' := [_, _]) rfl)) ?_
      refine DrG.fin (n := 5) mixed (by kernel_rfl) (by kernel_rfl) (by kernel_rfl) ?_
      refine Ops.cv (Cv.wk (.cons (t := 3) (Has.t rfl) (.cons (t := 4) (Has.t rfl) (.cons (t := 5) (Has.t rfl) (.cons (t := 6) (Has.t rfl) (.cons (t := 7) (Has.t rfl) (.cons (t := 8) (Has.t rfl) (.cons (t := 34) (Has.t rfl) (.cons (t := 35) (Has.t rfl) (.cons (t := 36) (Has.t rfl) .nil)))))))))) ?_
      refine st (OK1.eq (OK1.call (zint_Add (by first | with_reducible assumption | omega | (simp only [val_words, zv_nf]; omega) | (simp only [val_words]; exact Nat.le_trans (nw_small' (by omega)) (by decide))) (by first | with_reducible assumption | omega | (simp only [val_words, zv_nf]; omega) | (simp only [val_words]; exact Nat.le_trans (nw_small' (by omega)) (by decide)))) (.cons (Has.t rfl) (.cons (Has.t rfl) .nil))) (by first | (simp only [val_words, zv_nf]; rfl) | rfl)) rfl ?_
      refine Ops.store (Has.t rfl) (Has.t rfl) (i := 3) rfl ty37 rfl rfl (Ss' := [_, _]) rfl (M' := [_, _, _, (some _, cellM [_, _]), _, _]) rfl ?_
      refine Ops.store (Has.t rfl) (Has.t rfl) (i := 2) rfl ty37 rfl rfl (Ss' := [_, _]) rfl (M' := [_, _, (some _, cellM [_, _]), _, _, _]) rfl ?_
      refine st (OK1.as (Has.cB true)) rfl ?_
      refine nl ?_
      refine At.thn (hK7 _ _ ?_); clear hK7
      refine Tri.ret ?_
      refine At.blr ?_
      refine At.thr ?_
      refine rtN (.inl rfl) Try.results76 rfl rfl (.cell rfl (i := 3) rfl ty37 rfl ?_ (.cell rfl (i := 2) rfl ty37 rfl ?_ (.tmp (Has.t' rfl ?_) .nil)))
      · exact isZ_eq HE2.1
      · exact isZ_eq HE2.2
      · exact isB_eq (decide_eq_true HE.1).symm
    · have hc2 := BP.f hc2
      have HE2 := euc2 HE hc2
      refine Tri.skip ?_
      refine At.bln ?_
      refine At.thn (hK3 _ _ ?_); clear hK3
      refine Tri.seq fun K8 hK8 => ?_
      refine Tri.dr ?_
      refine DrG.st (i := 0) [] rfl rfl rfl (by kernel_rfl) (OKG.o rfl (OK1.load (Has.t rfl) (i := 1) rfl ty37 rfl (Ss' := [_, _]) rfl)) ?_
      refine DrG.st (i := 1) [] rfl rfl rfl (by kernel_rfl) (OKG.o rfl (OK1.call (zint_one) .nil)) ?_
      refine DrG.st (i := 2) [38, 39] rfl rfl rfl (by kernel_rfl) (OKG.o rfl (OK1.eq (OK1.call (zint_Add (by first | with_reducible assumption | omega | (simp only [val_words, zv_nf]; omega) | (simp only [val_words]; exact Nat.le_trans (nw_small' (by omega)) (by decide))) (by first | with_reducible assumption | omega | (simp only [val_words, zv_nf]; omega) | (simp only [val_words]; exact Nat.le_trans (nw_small' (by omega)) (by decide)))) (.cons (Has.t rfl) (.cons (Has.t rfl) .nil))) (by first | (simp only [val_words, zv_nf]; rfl) | rfl))) ?_
      refine DrG.st (i := 3) [] rfl rfl rfl (by kernel_rfl) (OKG.o rfl (OK1.load (Has.t rfl) (i := 0) rfl ty37 rfl (Ss' := [_, _]) rfl)) ?_
      refine DrG.st (i := 4) [] rfl rfl rfl (by kernel_rfl) (OKG.o rfl (OK1.load (Has.t rfl) (i := 4) rfl ty37 rfl (Ss' := [_, _]) rfl)) ?_
      refine DrG.fin (n := 5) mixed (by kernel_rfl) (by kernel_rfl) (by kernel_rfl) ?_
      refine Ops.cv (Cv.wk (.cons (t := 4) (Has.t rfl) (.cons (t := 5) (Has.t rfl) (.cons (t := 6) (Has.t rfl) (.cons (t := 40) (Has.t rfl) (.cons (t := 41) (Has.t rfl) (.cons (t := 42) (Has.t rfl) .nil))))))) ?_
      refine st (OK1.eq (OK1.call (zint_Sub (by first | with_reducible assumption | omega | (simp only [val_words, zv_nf]; omega) | (simp only [val_words]; exact Nat.le_trans (nw_small' (by omega)) (by decide))) (by first | with_reducible assumption | omega | (simp only [val_words, zv_nf]; omega) | (simp only [val_words]; exact Nat.le_trans (nw_small' (by omega)) (by decide)))) (.cons (Has.t rfl) (.cons (Has.t rfl) .nil))) (by first | (simp only [val_words, zv_nf]; rfl) | rfl)) rfl ?_
      refine Ops.store (Has.t rfl) (Has.t rfl) (i := 3) rfl ty37 rfl rfl (Ss' := [_, _]) rfl (M' := [_, _, _, (some _, cellM [_, _]), _, _]) rfl ?_
      refine Ops.store (Has.t rfl) (Has.t rfl) (i := 2) rfl ty37 rfl rfl (Ss' := [_, _]) rfl (M' := [_, _, (some _, cellM [_, _]), _, _, _]) rfl ?_
      refine st (OK1.as (Has.cB true)) rfl ?_
      refine nl ?_
      refine At.thn (hK8 _ _ ?_); clear hK8
      refine Tri.ret ?_
      refine rtN (.inl rfl) Try.results76 rfl rfl (.cell rfl (i := 3) rfl ty37 rfl ?_ (.cell rfl (i := 2) rfl ty37 rfl ?_ (.tmp (Has.t' rfl ?_) .nil)))
      · exact isZ_eq HE2.1
      · exact isZ_eq HE2.2
      · exact isB_eq (decide_eq_true HE.1).symm
set_option maxHeartbeats 4000000 in
theorem zint_Exact {m n : Bool} {xs ys : List Nat} (hx : (List.length (words (val xs))) < 4294700000) (hy : (List.length (words (val ys))) < 4294700000) : Ctr Try.prog 62 [Flat [isB m, isWords xs], Flat [isB n, isWords ys]] (isTup [isZ (if zv n ys ≠ 0 ∧ (zv m xs).tmod (zv n ys) = 0 then (zv m xs).tdiv (zv n ys) else 0), isB (decide (zv n ys ≠ 0 ∧ (zv m xs).tmod (zv n ys) = 0))]) := by
  refine Ctr.intro Try.func62 rfl (by kernel_rfl) Try.ntmps62 rfl fun w0 F0 => ?_
  refine Tri.cv (Cv.wk (.cons (t := 0) (Has.t rfl) (.cons (t := 1) (Has.t rfl) .nil))) ?_
  refine Tri.fact (Has.okZ (Has.t (t := 0) rfl)) fun okz0 => ?_
  refine Tri.fact (Has.okZ (Has.t (t := 1) rfl)) fun okz1 => ?_
  have ha := nz_tdiv (zv m xs) (zv n ys)
  have hb := nz_if (zv m xs) (zv n ys)
  have hxx := zv_nw m xs
  have hyy := zv_nw n ys
  have h1 := nz_one
  refine Tri.seq fun K1 hK1 => ?_
  refine Tri.region ?_
  refine Ops.box (Has.t rfl) rfl fun b1 => ?_
  refine Ops.box (Has.t rfl) rfl fun b2 => ?_
  refine Ops.alloc [isB false, SlM isU []] zero37 (fun _ _ => ⟨rfl, nilM _ _, trivial⟩) rfl fun b3 => ?_
  refine st (OK1.as (Has.cB false)) rfl ?_
  refine nl ?_
  refine At.thn (hK1 _ _ ?_); clear hK1
  refine Tri.seq fun K2 hK2 => ?_
  refine Tri.region ?_
  refine st (OK1.load (Has.t rfl) (i := 2) rfl ty37 rfl (Ss' := [_, _]) rfl) rfl ?_
  refine st (OK1.load (Has.t rfl) (i := 1) rfl ty37 rfl (Ss' := [_, _]) rfl) rfl ?_
  refine st (OK1.call (zint_Quo (by first | with_reducible assumption | omega | (simp only [val_words, zv_nf]; omega) | (simp only [val_words]; exact Nat.le_trans (nw_small' (by omega)) (by decide))) (by first | with_reducible assumption | omega | (simp only [val_words, zv_nf]; omega) | (simp only [val_words]; exact Nat.le_trans (nw_small' (by omega)) (by decide)))) (.cons (Has.t rfl) (.cons (Has.t rfl) .nil))) rfl ?_
  refine st (OK1.mv (Has.t rfl)) rfl ?_
  refine st (OK1.ext (Has.t rfl) rfl) rfl ?_
  refine st (OK1.ext (Has.t rfl) rfl) rfl ?_
  refine st (OK1.ext (Has.t rfl) rfl) rfl ?_
  refine Ops.alloc [isB false, SlM isU []] zero37 (fun _ _ => ⟨rfl, nilM _ _, trivial⟩) rfl fun b4 => ?_
  refine Ops.alloc [isB false, SlM isU []] zero37 (fun _ _ => ⟨rfl, nilM _ _, trivial⟩) rfl fun b5 => ?_
  refine Ops.store (Has.t rfl) (Has.t rfl) (i := 1) rfl ty37 rfl rfl (Ss' := [_, _]) rfl (M' := [_, (some _, cellM [_, _]), _, _, _]) rfl ?_
  refine Ops.store (Has.t rfl) (Has.t rfl) (i := 0) rfl ty37 rfl rfl (Ss' := [_, _]) rfl (M' := [(some _, cellM [_, _]), _, _, _, _]) rfl ?_
  refine st (OK1.as (Has.t rfl)) rfl ?_
  refine nl ?_
  refine At.thn (hK2 _ _ ?_); clear hK2
  refine Tri.cv (Cv.wk (.cons (t := 4) (Has.t rfl) (.cons (t := 5) (Has.t rfl) (.cons (t := 6) (Has.t rfl) (.cons (t := 7) (Has.t rfl) (.cons (t := 8) (Has.t rfl) .nil)))))) ?_
  refine Tri.seq fun K3 hK3 => ?_
  refine Tri.seq fun K4 hK4 => ?_
  refine Tri.region ?_
  refine st (OK1.mv (Has.t rfl)) rfl ?_
  refine st (OK1.not (Has.t rfl)) rfl ?_
  refine st (OK1.mv (Has.t rfl)) rfl ?_
  refine stF rfl rfl (fun hg => have hg' := BP.t hg; OK1.load (Has.t rfl) (i := 0) rfl ty37 rfl (Ss' := [_, _]) rfl) rfl ?_
  refine stF rfl rfl (fun hg => have hg' := BP.t hg; OK1.eq (OK1.call (zint_Sign (by first | with_reducible assumption | omega | (simp only [val_words, zv_nf]; omega) | (simp only [val_words]; exact Nat.le_trans (nw_small' (by omega)) (by decide)))) (.cons (Has.g rfl hg) .nil)) (by first | (simp only [val_words, zv_nf]; rfl) | rfl)) rfl ?_
  refine stF rfl rfl (fun hg => have hg' := BP.t hg; OK1.neI (Has.g rfl hg) (Has.cI 0 rfl)) rfl ?_
  refine st (OK1.pickOr (Has.t rfl) (fun h => Has.g rfl (ng h))) rfl ?_
  refine nl ?_
  refine At.thn (hK4 _ _ ?_); clear hK4
  refine Tri.cv (Cv.wk (.cons (t := 4) (Has.t rfl) (.cons (t := 5) (Has.t rfl) (.cons (t := 6) (Has.t rfl) (.cons (t := 22) (Has.t rfl) .nil))))) ?_
  refine Tri.cond (Has.t rfl) (fun hc1 => ?_) (fun hc1 => ?_)
  · have hc1 := BP.t hc1
    have HE := ex_no hc1
    refine Tri.seq fun K5 hK5 => ?_
    refine Tri.region ?_
    refine st (OK1.eq (OK1.build [isB false, SlM isU []] pl37 zero37 (fun _ _ => ⟨rfl, nilM _ _, trivial⟩) .nil (Z'' := [_, _]) rfl) (isZ0)) rfl ?_
    refine Ops.store (Has.t rfl) (Has.t rfl) (i := 2) rfl ty37 rfl rfl (Ss' := [_, _]) rfl (M' := [_, _, (some _, cellM [_, _]), _, _]) rfl ?_
    refine st (OK1.as (Has.cB false)) rfl ?_
    refine nl ?_
    refine At.thn (hK5 _ _ ?_); clear hK5
    refine Tri.ret ?_
    refine At.thr ?_
    refine rtN (.inl rfl) Try.results62 rfl rfl (.cell rfl (i := 2) rfl ty37 rfl ?_ (.tmp (Has.t' rfl ?_) .nil))
    · exact isZ_eq (if_neg HE).symm
    · exact isB_eq (decide_eq_false HE).symm
  · have hc1 := BP.f hc1
    have HE := ex_yes hc1
    refine Tri.skip ?_
    refine At.thn (hK3 _ _ ?_); clear hK3
    refine Tri.seq fun K6 hK6 => ?_
    refine Tri.region ?_
    refine st (OK1.load (Has.t rfl) (i := 1) rfl ty37 rfl (Ss' := [_, _]) rfl) rfl ?_
    refine Ops.store (Has.t rfl) (Has.t rfl) (i := 2) rfl ty37 rfl rfl (Ss' := [_, _]) rfl (M' := [_, _, (some _, cellM [_, _]), _, _]) rfl ?_
    refine st (OK1.as (Has.cB true)) rfl ?_
    refine nl ?_
    refine At.thn (hK6 _ _ ?_); clear hK6
    refine Tri.ret ?_
    refine rtN (.inl rfl) Try.results62 rfl rfl (.cell rfl (i := 2) rfl ty37 rfl ?_ (.tmp (Has.t' rfl ?_) .nil))
    · exact isZ_eq (if_pos HE).symm
    · exact isB_eq (decide_eq_true HE).symm
set_option maxHeartbeats 4000000 in
theorem zint_cofactor {m n : Bool} {xs ys : List Nat} (hx : (List.length (words (val xs))) ≤ 100000000) (hy : (List.length (words (val ys))) ≤ 100000000) : Ctr Try.prog 75 [Flat [isB m, isWords xs], Flat [isB n, isWords ys]] (isTup [isZ (cof (zv m xs) (zv n ys) 1 0).1, isZ (cof (zv m xs) (zv n ys) 1 0).2]) := by
  refine Ctr.intro Try.func75 rfl (by kernel_rfl) Try.ntmps75 rfl fun w0 F0 => ?_
  refine Tri.cv (Cv.wk (.cons (t := 0) (Has.t rfl) (.cons (t := 1) (Has.t rfl) .nil))) ?_
  refine Tri.fact (Has.okZ (Has.t (t := 0) rfl)) fun okz0 => ?_
  refine Tri.fact (Has.okZ (Has.t (t := 1) rfl)) fun okz1 => ?_
  have hxx := zv_nw m xs
  have hyy := zv_nw n ys
  refine Tri.seq fun K1 hK1 => ?_
  refine Tri.region ?_
  refine Ops.box (Has.t rfl) rfl fun b1 => ?_
  refine Ops.box (Has.t rfl) rfl fun b2 => ?_
  refine Ops.alloc [isB false, SlM isU []] zero37 (fun _ _ => ⟨rfl, nilM _ _, trivial⟩) rfl fun b3 => ?_
  refine Ops.alloc [isB false, SlM isU []] zero37 (fun _ _ => ⟨rfl, nilM _ _, trivial⟩) rfl fun b4 => ?_
  refine nl ?_
  refine At.thn (hK1 _ _ ?_); clear hK1
  refine Tri.seq fun K2 hK2 => ?_
  refine Tri.region ?_
  refine st (OK1.call (zint_one) .nil) rfl ?_
  refine st (OK1.eq (OK1.build [isB false, SlM isU []] pl37 zero37 (fun _ _ => ⟨rfl, nilM _ _, trivial⟩) .nil (Z'' := [_, _]) rfl) (isZ0)) rfl ?_
  refine Ops.alloc [isB false, SlM isU []] zero37 (fun _ _ => ⟨rfl, nilM _ _, trivial⟩) rfl fun b5 => ?_
  refine Ops.alloc [isB false, SlM isU []] zero37 (fun _ _ => ⟨rfl, nilM _ _, trivial⟩) rfl fun b6 => ?_
  refine Ops.store (Has.t rfl) (Has.t rfl) (i := 1) rfl ty37 rfl rfl (Ss' := [_, _]) rfl (M' := [_, (some _, cellM [_, _]), _, _, _, _]) rfl ?_
  refine Ops.store (Has.t rfl) (Has.t rfl) (i := 0) rfl ty37 rfl rfl (Ss' := [_, _]) rfl (M' := [(some _, cellM [_, _]), _, _, _, _, _]) rfl ?_
  refine nl ?_
  refine At.thn (hK2 _ _ ?_); clear hK2
  refine Tri.seq fun K3 hK3 => ?_
  refine Tri.dr ?_
  refine DrG.st (i := 0) [] rfl rfl rfl (by kernel_rfl) (OKG.o rfl (OK1.fieldAddr (Has.t rfl) fld37_1 ty35)) ?_
  refine DrG.st (i := 1) [13] rfl rfl rfl (by kernel_rfl) (OKG.o rfl (OK1.load1 (Has.t rfl) (i := 5) rfl ty35 rfl)) ?_
  refine DrG.st (i := 2) [] rfl rfl rfl (by kernel_rfl) (OKG.o rfl (OK1.fieldAddr (Has.t rfl) fld37_0 ty4)) ?_
  refine DrG.st (i := 3) [15] rfl rfl rfl (by kernel_rfl) (OKG.o rfl (OK1.load1 (Has.t rfl) (i := 5) rfl ty4 rfl)) ?_
  refine DrG.st (i := 4) [14, 16] rfl rfl rfl (by kernel_rfl) (OKG.o rfl (OK1.call (zint_From (by first | with_reducible assumption | omega | (simp only [val_words, zv_nf]; omega) | (simp only [val_words]; exact Nat.le_trans (nw_small' (by omega)) (by decide)))) (.cons (Has.t rfl) (.cons (Has.t rfl) .nil)))) ?_
  refine DrG.st (i := 5) [] rfl rfl rfl (by kernel_rfl) (OKG.o rfl (OK1.fieldAddr (Has.t rfl) fld37_1 ty35)) ?_
  refine DrG.st (i := 6) [18] rfl rfl rfl (by kernel_rfl) (OKG.o rfl (OK1.load1 (Has.t rfl) (i := 4) rfl ty35 rfl)) ?_
  refine DrG.st (i := 7) [] rfl rfl rfl (by kernel_rfl) (OKG.o rfl (OK1.fieldAddr (Has.t rfl) fld37_0 ty4)) ?_
  refine DrG.st (i := 8) [20] rfl rfl rfl (by kernel_rfl) (OKG.o rfl (OK1.load1 (Has.t rfl) (i := 4) rfl ty4 rfl)) ?_
  refine DrG.fin (n := 9) mixed (by kernel_rfl) (by kernel_rfl) (by kernel_rfl) ?_
  refine Ops.cv (Cv.wk (.cons (t := 2) (Has.t rfl) (.cons (t := 3) (Has.t rfl) (.cons (t := 4) (Has.t rfl) (.cons (t := 5) (Has.t rfl) (.cons (t := 6) (Has.t rfl) (.cons (t := 7) (Has.t rfl) (.cons (t := 17) (Has.t rfl) (.cons (t := 19) (Has.t rfl) (.cons (t := 21) (Has.t rfl) .nil)))))))))) ?_
  refine st (OK1.call (zint_From (by first | with_reducible assumption | omega | (simp only [val_words, zv_nf]; omega) | (simp only [val_words]; exact Nat.le_trans (nw_small' (by omega)) (by decide)))) (.cons (Has.t rfl) (.cons (Has.t rfl) .nil))) rfl ?_
  refine Ops.store (Has.t rfl) (Has.t rfl) (i := 5) rfl ty37 rfl rfl (Ss' := [_, _]) rfl (M' := [_, _, _, _, _, (some _, cellM [_, _])]) rfl ?_
  refine Ops.store (Has.t rfl) (Has.t rfl) (i := 4) rfl ty37 rfl rfl (Ss' := [_, _]) rfl (M' := [_, _, _, _, (some _, cellM [_, _]), _]) rfl ?_
  refine nl ?_
  refine At.thn (hK3 _ _ ?_); clear hK3
  refine Tri.seq fun K4 hK4 => ?_
  refine Tri.block ?_
  refine Tri.loopF [2, 3, 4, 5, 6, 7] (fun (z : { z : Int × Int × Int × Int × Nat × Nat // Cf (zv m xs) (zv n ys) z.1 z.2.1 z.2.2.1 z.2.2.2.1 z.2.2.2.2.1 z.2.2.2.2.2 ∧ cof z.1 z.2.1 z.2.2.1 z.2.2.2.1 = cof (zv m xs) (zv n ys) 1 0 }) => match z with | ⟨(a, b, x, nx, X, Y), hI⟩ => []) (fun M => fun (z : { z : Int × Int × Int × Int × Nat × Nat // Cf (zv m xs) (zv n ys) z.1 z.2.1 z.2.2.1 z.2.2.2.1 z.2.2.2.2.1 z.2.2.2.2.2 ∧ cof z.1 z.2.1 z.2.2.1 z.2.2.2.1 = cof (zv m xs) (zv n ys) 1 0 }) => match z with | ⟨(a, b, x, nx, X, Y), hI⟩ => [zM b6 nx, zM b5 x, (some b4, cellM [isB false, SlM isU []]), (some b3, cellM [isB false, SlM isU []]), zM b2 b, zM b1 a]) (fun (z : { z : Int × Int × Int × Int × Nat × Nat // Cf (zv m xs) (zv n ys) z.1 z.2.1 z.2.2.1 z.2.2.2.1 z.2.2.2.2.1 z.2.2.2.2.2 ∧ cof z.1 z.2.1 z.2.2.1 z.2.2.2.1 = cof (zv m xs) (zv n ys) 1 0 }) => match z with | ⟨(a, b, x, nx, X, Y), hI⟩ => b.natAbs) (⟨(zv m xs, zv n ys, 1, 0, 1, 0), Cf.start _ _, rfl⟩) (Cv.mem (.cons (t := 2) (Has.t rfl) (.cons (t := 3) (Has.t rfl) (.cons (t := 4) (Has.t rfl) (.cons (t := 5) (Has.t rfl) (.cons (t := 6) (Has.t rfl) (.cons (t := 7) (Has.t rfl) .nil)))))) ?_) ?_
  · rfl
  rintro ⟨⟨a, b, x, nx, X, Y⟩, hI⟩ K5 hK5
  refine Tri.cv (Cv.wk (.cons (t := 2) (Has.t rfl) (.cons (t := 3) (Has.t rfl) (.cons (t := 4) (Has.t rfl) (.cons (t := 5) (Has.t rfl) (.cons (t := 6) (Has.t rfl) (.cons (t := 7) (Has.t rfl) .nil))))))) ?_
  refine Tri.memEq (M' := [zM b6 nx, zM b5 x, (some b4, cellM [isB false, SlM isU []]), (some b3, cellM [isB false, SlM isU []]), zM b2 b, zM b1 a]) rfl ?_
  simp only [] at hI
  obtain ⟨hC, hcof⟩ := hI
  have za := Nat.le_trans (nw_mono hC.a1) (nw_max _ _)
  have zb := nw_mono hC.b1
  have zx := Nat.le_trans (nw_mono (Nat.le_trans hC.x hC.X1)) (nw_max _ _)
  have zn := nw_mono (Nat.le_trans hC.y hC.Y1)
  have h1 := nw_one
  have zq := nz_tdiv a b
  have zr := nz_tmod a b
  refine Tri.seq fun K6 hK6 => ?_
  refine Tri.seq fun K7 hK7 => ?_
  refine Tri.region ?_
  refine st (OK1.load (Has.t rfl) (i := 4) rfl ty37 rfl (Ss' := [_, _]) rfl) rfl ?_
  refine st (OK1.eq (OK1.call (zint_Sign (by first | with_reducible assumption | omega | (simp only [val_words, zv_nf]; omega) | (simp only [val_words]; exact Nat.le_trans (nw_small' (by omega)) (by decide)))) (.cons (Has.t rfl) .nil)) (by first | (simp only [val_words, zv_nf]; rfl) | rfl)) rfl ?_
  refine st (OK1.neI (Has.t rfl) (Has.cI 0 rfl)) rfl ?_
  refine nl ?_
  refine At.thn (hK7 _ _ ?_); clear hK7
  refine Tri.cond (Has.t rfl) (fun hc1 => ?_) (fun hc1 => ?_)
  · have hc1 := BP.t hc1
    have hb : b ≠ 0 := fun e => hc1 (by rw [sgn_eq0]; exact e)
    have zm := nz_mul (a.tdiv b) nx
    refine Tri.skip ?_
    refine At.thn (hK6 _ _ ?_); clear hK6
    refine Tri.block ?_
    refine Tri.seq fun K8 hK8 => ?_
    refine Tri.region ?_
    refine st (OK1.load (Has.t rfl) (i := 5) rfl ty37 rfl (Ss' := [_, _]) rfl) rfl ?_
    refine st (OK1.load (Has.t rfl) (i := 4) rfl ty37 rfl (Ss' := [_, _]) rfl) rfl ?_
    refine st (OK1.eq (OK1.call (zint_Quo (by first | with_reducible assumption | omega | (simp only [val_words, zv_nf]; omega) | (simp only [val_words]; exact Nat.le_trans (nw_small' (by omega)) (by decide))) (by first | with_reducible assumption | omega | (simp only [val_words, zv_nf]; omega) | (simp only [val_words]; exact Nat.le_trans (nw_small' (by omega)) (by decide)))) (.cons (Has.t rfl) (.cons (Has.t rfl) .nil))) (by first | (simp only [val_words, zv_nf]; rfl) | rfl)) rfl ?_
    refine st (OK1.mv (Has.t rfl)) rfl ?_
    refine st (OK1.ext (Has.t rfl) rfl) rfl ?_
    refine st (OK1.ext (Has.t rfl) rfl) rfl ?_
    refine st (OK1.ext (Has.t rfl) rfl) rfl ?_
    refine Ops.alloc [isB false, SlM isU []] zero37 (fun _ _ => ⟨rfl, nilM _ _, trivial⟩) rfl fun b7 => ?_
    refine Ops.alloc [isB false, SlM isU []] zero37 (fun _ _ => ⟨rfl, nilM _ _, trivial⟩) rfl fun b8 => ?_
    refine Ops.store (Has.t rfl) (Has.t rfl) (i := 1) rfl ty37 rfl rfl (Ss' := [_, _]) rfl (M' := [_, (some _, cellM [_, _]), _, _, _, _, _, _]) rfl ?_
    refine Ops.store (Has.t rfl) (Has.t rfl) (i := 0) rfl ty37 rfl rfl (Ss' := [_, _]) rfl (M' := [(some _, cellM [_, _]), _, _, _, _, _, _, _]) rfl ?_
    refine st (OK1.as (Has.t rfl)) rfl ?_
    refine nl ?_
    refine At.thn (hK8 _ _ ?_); clear hK8
    refine Tri.seq fun K9 hK9 => ?_
    refine Tri.drh [true, true, true, true, true, true, true, false] (Ms := [_, _, _, _, _, _, _]) rfl ?_
    refine DrH.st (i := 0) [] rfl rfl rfl (by kernel_rfl) (OKG.o rfl (OK1.load (Has.t rfl) (i := 6) rfl ty37 rfl (Ss' := [_, _]) rfl)) ?_
    refine DrH.st (i := 1) [] rfl rfl rfl (by kernel_rfl) (OKG.o rfl (OK1.load (Has.t rfl) (i := 0) rfl ty37 rfl (Ss' := [_, _]) rfl)) ?_
    refine DrH.mid (.cons_cons _ (.cons_cons _ (.cons_cons _ (.cons_cons _ (.cons_cons _ (.cons_cons _ (.cons_cons _ (.cons _ .slnil)))))))) ?_
    refine DrM.st [33] rfl rfl (by kernel_rfl) (by kernel_rfl) (StS.store (Has.t rfl) (Has.t rfl) (i := 7) rfl ty37 rfl rfl (Ss' := [_, _]) rfl (M' := [_, _, _, _, _, _, _, (some _, cellM [_, _])]) rfl) (.cons_cons _ (.cons_cons _ (.cons_cons _ (.cons_cons _ (.cons_cons _ (.cons_cons _ (.cons_cons _ (.cons _ .slnil)))))))) ?_
    refine DrM.fin (n := 3) mixed rfl (by kernel_rfl) (by kernel_rfl) (by kernel_rfl) ?_
    refine Ops.cv (Cv.wk (.cons (t := 2) (Has.t rfl) (.cons (t := 3) (Has.t rfl) (.cons (t := 4) (Has.t rfl) (.cons (t := 5) (Has.t rfl) (.cons (t := 6) (Has.t rfl) (.cons (t := 7) (Has.t rfl) (.cons (t := 23) (Has.t rfl) (.cons (t := 24) (Has.t rfl) (.cons (t := 25) (Has.t rfl) (.cons (t := 27) (Has.t rfl) (.cons (t := 28) (Has.t rfl) (.cons (t := 29) (Has.t rfl) (.cons (t := 26) (Has.t rfl) (.cons (t := 30) (Has.t rfl) (.cons (t := 31) (Has.t rfl) (.cons (t := 32) (Has.t rfl) (.cons (t := 8) (Has.t rfl) (.cons (t := 9) (Has.t rfl) (.cons (t := 33) (Has.t rfl) (.cons (t := 34) (Has.t rfl) .nil))))))))))))))))))))) ?_
    refine Ops.store (Has.t rfl) (Has.t rfl) (i := 6) rfl ty37 rfl rfl (Ss' := [_, _]) rfl (M' := [_, _, _, _, _, _, (some _, cellM [_, _]), _]) rfl ?_
    refine nl ?_
    refine At.thn (hK9 _ _ ?_); clear hK9
    refine Tri.dr ?_
    refine DrG.st (i := 0) [] rfl rfl rfl (by kernel_rfl) (OKG.o rfl (OK1.load (Has.t rfl) (i := 2) rfl ty37 rfl (Ss' := [_, _]) rfl)) ?_
    refine DrG.st (i := 1) [] rfl rfl rfl (by kernel_rfl) (OKG.o rfl (OK1.load (Has.t rfl) (i := 3) rfl ty37 rfl (Ss' := [_, _]) rfl)) ?_
    refine DrG.st (i := 2) [] rfl rfl rfl (by kernel_rfl) (OKG.o rfl (OK1.load (Has.t rfl) (i := 1) rfl ty37 rfl (Ss' := [_, _]) rfl)) ?_
    refine DrG.st (i := 3) [] rfl rfl rfl (by kernel_rfl) (OKG.o rfl (OK1.load (Has.t rfl) (i := 2) rfl ty37 rfl (Ss' := [_, _]) rfl)) ?_
    refine DrG.st (i := 4) [37, 38] rfl rfl rfl (by kernel_rfl) (OKG.o rfl (OK1.eq (OK1.call (zint_Mul (by first | with_reducible assumption | omega | (simp only [val_words, zv_nf]; omega) | (simp only [val_words]; exact Nat.le_trans (nw_small' (by omega)) (by decide))) (by first | with_reducible assumption | omega | (simp only [val_words, zv_nf]; omega) | (simp only [val_words]; exact Nat.le_trans (nw_small' (by omega)) (by decide)))) (.cons (Has.t rfl) (.cons (Has.t rfl) .nil))) (by first | (simp only [val_words, zv_nf]; rfl) | rfl))) ?_
    refine DrG.st (i := 5) [36, 39] rfl rfl rfl (by kernel_rfl) (OKG.o rfl (OK1.eq (OK1.call (zint_Sub (by first | with_reducible assumption | omega | (simp only [val_words, zv_nf]; omega) | (simp only [val_words]; exact Nat.le_trans (nw_small' (by omega)) (by decide))) (by first | with_reducible assumption | omega | (simp only [val_words, zv_nf]; omega) | (simp only [val_words]; exact Nat.le_trans (nw_small' (by omega)) (by decide)))) (.cons (Has.t rfl) (.cons (Has.t rfl) .nil))) (by first | (simp only [val_words, zv_nf]; rfl) | rfl))) ?_
    refine DrG.fin (n := 6) mixed (by kernel_rfl) (by kernel_rfl) (by kernel_rfl) ?_
    refine Ops.cv (Cv.wk (.cons (t := 2) (Has.t rfl) (.cons (t := 3) (Has.t rfl) (.cons (t := 4) (Has.t rfl) (.cons (t := 5) (Has.t rfl) (.cons (t := 6) (Has.t rfl) (.cons (t := 7) (Has.t rfl) (.cons (t := 23) (Has.t rfl) (.cons (t := 24) (Has.t rfl) (.cons (t := 25) (Has.t rfl) (.cons (t := 27) (Has.t rfl) (.cons (t := 28) (Has.t rfl) (.cons (t := 29) (Has.t rfl) (.cons (t := 26) (Has.t rfl) (.cons (t := 30) (Has.t rfl) (.cons (t := 31) (Has.t rfl) (.cons (t := 32) (Has.t rfl) (.cons (t := 8) (Has.t rfl) (.cons (t := 9) (Has.t rfl) (.cons (t := 33) (Has.t rfl) (.cons (t := 34) (Has.t rfl) (.cons (t := 35) (Has.t rfl) (.cons (t := 36) (Has.t rfl) (.cons (t := 37) (Has.t rfl) (.cons (t := 38) (Has.t rfl) (.cons (t := 39) (Has.t rfl) (.cons (t := 40) (Has.t rfl) .nil))))))))))))))))))))))))))) ?_
    refine Ops.store (Has.t rfl) (Has.t rfl) (i := 3) rfl ty37 rfl rfl (Ss' := [_, _]) rfl (M' := [_, _, _, (some _, cellM [_, _]), _, _, _, _]) rfl ?_
    refine Ops.store (Has.t rfl) (Has.t rfl) (i := 2) rfl ty37 rfl rfl (Ss' := [_, _]) rfl (M' := [_, _, (some _, cellM [_, _]), _, _, _, _, _]) rfl ?_
    refine nl ?_
    refine At.bln ?_
    refine At.thn ?_
    refine hK5 (⟨(b, a.tmod b, nx, x - a.tdiv b * nx, Y, X + (a.tdiv b).natAbs * Y), hC.step hb, by rw [← hcof, cof_step hb]⟩) _ _ ?_ (Cv.trans (Cv.drop ((.cons _ (.cons _ (.cons_cons _ (.cons_cons _ (.cons_cons _ (.cons_cons _ (.cons_cons _ (.cons_cons _ .slnil)))))))))) (Cv.mem (.cons (t := 2) (Has.t rfl) (.cons (t := 3) (Has.t rfl) (.cons (t := 4) (Has.t rfl) (.cons (t := 5) (Has.t rfl) (.cons (t := 6) (Has.t rfl) (.cons (t := 7) (Has.t rfl) .nil)))))) ?_))
    · show (a.tmod b).natAbs < b.natAbs; rw [Int.natAbs_tmod]; exact Nat.mod_lt _ (by omega)
    · simp only [if_neg hb]
  · have hc1 := BP.f hc1
    have hb : b = 0 := (sgn_eq0 _).1 (by omega)
    refine Tri.exit ?_
    refine At.the ?_
    refine At.the ?_
    refine At.blh ?_
    refine At.thn (hK4 _ _ ?_); clear hK4
    refine Tri.cv (Cv.wk (.cons (t := 2) (Has.t rfl) (.cons (t := 4) (Has.t rfl) (.cons (t := 5) (Has.t rfl) (.cons (t := 6) (Has.t rfl) .nil))))) ?_
    refine Tri.seq fun K10 hK10 => ?_
    refine Tri.seq fun K11 hK11 => ?_
    refine Tri.region ?_
    refine st (OK1.load (Has.t rfl) (i := 5) rfl ty37 rfl (Ss' := [_, _]) rfl) rfl ?_
    refine st (OK1.eq (OK1.call (zint_Sign (by first | with_reducible assumption | omega | (simp only [val_words, zv_nf]; omega) | (simp only [val_words]; exact Nat.le_trans (nw_small' (by omega)) (by decide)))) (.cons (Has.t rfl) .nil)) (by first | (simp only [val_words, zv_nf]; rfl) | rfl)) rfl ?_
    refine st (OK1.ltI (Has.t rfl) (Has.cI 0 rfl)) rfl ?_
    refine nl ?_
    refine At.thn (hK11 _ _ ?_); clear hK11
    refine Tri.cond (Has.t rfl) (fun hc2 => ?_) (fun hc2 => ?_)
    · have hc2 := BP.t hc2
      have ha : a < 0 := (sgn_lt _).1 hc2
      refine Tri.seq fun K12 hK12 => ?_
      refine Tri.dr ?_
      refine DrG.st (i := 0) [] rfl rfl rfl (by kernel_rfl) (OKG.o rfl (OK1.load (Has.t rfl) (i := 5) rfl ty37 rfl (Ss' := [_, _]) rfl)) ?_
      refine DrG.st (i := 1) [44] rfl rfl rfl (by kernel_rfl) (OKG.o rfl (OK1.eq (OK1.call (zint_Neg (by first | with_reducible assumption | omega | (simp only [val_words, zv_nf]; omega) | (simp only [val_words]; exact Nat.le_trans (nw_small' (by omega)) (by decide)))) (.cons (Has.t rfl) .nil)) (by first | (simp only [val_words, zv_nf]; rfl) | rfl))) ?_
      refine DrG.st (i := 2) [] rfl rfl rfl (by kernel_rfl) (OKG.o rfl (OK1.load (Has.t rfl) (i := 1) rfl ty37 rfl (Ss' := [_, _]) rfl)) ?_
      refine DrG.fin (n := 3) mixed (by kernel_rfl) (by kernel_rfl) (by kernel_rfl) ?_
      refine Ops.cv (Cv.wk (.cons (t := 2) (Has.t rfl) (.cons (t := 4) (Has.t rfl) (.cons (t := 5) (Has.t rfl) (.cons (t := 6) (Has.t rfl) (.cons (t := 45) (Has.t rfl) (.cons (t := 46) (Has.t rfl) .nil))))))) ?_
      refine st (OK1.eq (OK1.call (zint_Neg (by first | with_reducible assumption | omega | (simp only [val_words, zv_nf]; omega) | (simp only [val_words]; exact Nat.le_trans (nw_small' (by omega)) (by decide)))) (.cons (Has.t rfl) .nil)) (by first | (simp only [val_words, zv_nf]; rfl) | rfl)) rfl ?_
      refine Ops.store (Has.t rfl) (Has.t rfl) (i := 3) rfl ty37 rfl rfl (Ss' := [_, _]) rfl (M' := [_, _, _, (some _, cellM [_, _]), _, _]) rfl ?_
      refine Ops.store (Has.t rfl) (Has.t rfl) (i := 2) rfl ty37 rfl rfl (Ss' := [_, _]) rfl (M' := [_, _, (some _, cellM [_, _]), _, _, _]) rfl ?_
      refine nl ?_
      refine At.thn (hK12 _ _ ?_); clear hK12
      refine Tri.ret ?_
      refine At.thr ?_
      refine rtN (.inl rfl) Try.results75 rfl rfl (.cell rfl (i := 3) rfl ty37 rfl ?_ (.cell rfl (i := 2) rfl ty37 rfl ?_ .nil))
      · subst hb; exact isZ_eq (by rw [← hcof, cof_zero, if_pos ha])
      · subst hb; exact isZ_eq (by rw [← hcof, cof_zero, if_pos ha])
    · have hc2 := BP.f hc2
      have ha : ¬ a < 0 := fun e => by have := (sgn_lt a).2 e; omega
      refine Tri.skip ?_
      refine At.thn (hK10 _ _ ?_); clear hK10
      refine Tri.seq fun K13 hK13 => ?_
      refine Tri.drh [true, true, true, false, true, true] (Ms := [_, _, _, _, _]) rfl ?_
      refine DrH.st (i := 0) [] rfl rfl rfl (by kernel_rfl) (OKG.o rfl (OK1.load (Has.t rfl) (i := 4) rfl ty37 rfl (Ss' := [_, _]) rfl)) ?_
      refine DrH.st (i := 1) [] rfl rfl rfl (by kernel_rfl) (OKG.o rfl (OK1.load (Has.t rfl) (i := 1) rfl ty37 rfl (Ss' := [_, _]) rfl)) ?_
      refine DrH.mid (.cons_cons _ (.cons_cons _ (.cons_cons _ (.cons _ (.cons_cons _ (.cons_cons _ .slnil)))))) ?_
      refine DrM.st [48] rfl rfl (by kernel_rfl) (by kernel_rfl) (StS.store (Has.t rfl) (Has.t rfl) (i := 3) rfl ty37 rfl rfl (Ss' := [_, _]) rfl (M' := [_, _, _, (some _, cellM [_, _]), _, _]) rfl) (.cons_cons _ (.cons_cons _ (.cons_cons _ (.cons _ (.cons_cons _ (.cons_cons _ .slnil)))))) ?_
      refine DrM.fin (n := 3) mixed rfl (by kernel_rfl) (by kernel_rfl) (by kernel_rfl) ?_
      refine Ops.cv (Cv.wk (.cons (t := 4) (Has.t rfl) (.cons (t := 5) (Has.t rfl) (.cons (t := 49) (Has.t rfl) .nil)))) ?_
      refine Ops.store (Has.t rfl) (Has.t rfl) (i := 2) rfl ty37 rfl rfl (Ss' := [_, _]) rfl (M' := [_, _, (some _, cellM [_, _]), _, _, _]) rfl ?_
      refine nl ?_
      refine At.thn (hK13 _ _ ?_); clear hK13
      refine Tri.ret ?_
      refine rtN (.inl rfl) Try.results75 rfl rfl (.cell rfl (i := 3) rfl ty37 rfl ?_ (.cell rfl (i := 2) rfl ty37 rfl ?_ .nil))
      · subst hb; exact isZ_eq (by rw [← hcof, cof_zero, if_neg ha])
      · subst hb; exact isZ_eq (by rw [← hcof, cof_zero, if_neg ha])
end Go.Proofs.Ytcfobfedliajdaa
/- Contracts: the greatest common divisor with what makes it; rests, inverses. -/
namespace Go.Proofs.Ytcfobfedliajdaa
open Go.En Go.RowKit
set_option linter.unusedVariables false
set_option maxRecDepth 10000
open Go.Nt
set_option maxHeartbeats 4000000 in
theorem zint_Xgcd {m n : Bool} {xs ys : List Nat} (hx : (List.length (words (val xs))) ≤ 100000000) (hy : (List.length (words (val ys))) ≤ 100000000) (hb : zv n ys ≠ 0) : Ctr Try.prog 61 [Flat [isB m, isWords xs], Flat [isB n, isWords ys]] (isTup [isZ ((Nat.gcd (zv m xs).natAbs (zv n ys).natAbs : Nat) : Int), isZ (xg (zv m xs) (zv n ys)), isZ (if zv n ys ≠ 0 ∧ (((Nat.gcd (zv m xs).natAbs (zv n ys).natAbs : Nat) : Int) - xg (zv m xs) (zv n ys) * zv m xs).tmod (zv n ys) = 0 then (((Nat.gcd (zv m xs).natAbs (zv n ys).natAbs : Nat) : Int) - xg (zv m xs) (zv n ys) * zv m xs).tdiv (zv n ys) else 0)]) := by
  refine Ctr.intro Try.func61 rfl (by kernel_rfl) Try.ntmps61 rfl fun w0 F0 => ?_
  refine Tri.cv (Cv.wk (.cons (t := 0) (Has.t rfl) (.cons (t := 1) (Has.t rfl) .nil))) ?_
  refine Tri.fact (Has.okZ (Has.t (t := 0) rfl)) fun okz0 => ?_
  refine Tri.fact (Has.okZ (Has.t (t := 1) rfl)) fun okz1 => ?_
  have hxx := zv_nw m xs
  have hyy := zv_nw n ys
  have h1 := nz_one
  have hcof := cof_all (zv m xs) (zv n ys)
  have hg1 := hcof.1
  obtain ⟨g, hge⟩ : ∃ g : Int, g = ((Nat.gcd (zv m xs).natAbs (zv n ys).natAbs : Nat) : Int) := ⟨_, rfl⟩
  have hgn : (List.length (words g.natAbs)) ≤ 100000000 := by rw [hge, Int.natAbs_natCast]; exact Nat.le_trans (nw_mono (Nat.gcd_le_right _ (by omega))) (by omega)
  obtain ⟨c, hce⟩ : ∃ c, c = (cof (zv m xs) (zv n ys) 1 0).2 := ⟨_, rfl⟩
  have hcn : (List.length (words c.natAbs)) ≤ 100000000 := by rw [hce]; exact Nat.le_trans (nw_mono hcof.2.2) (Nat.le_trans (nw_max _ _) (by have := nw_one; omega))
  obtain ⟨sp, hst⟩ : ∃ sp : Int, sp = ((zv n ys).natAbs : Int) / g := ⟨_, rfl⟩
  have hsp : 0 < sp := by rw [hst, hge]; exact step_pos hb
  have hsn : (List.length (words sp.natAbs)) ≤ 100000000 := by rw [hst, hge]; exact Nat.le_trans (nw_mono (step_le _ _)) (by omega)
  obtain ⟨x, hxe⟩ : ∃ x, x = xg (zv m xs) (zv n ys) := ⟨_, rfl⟩
  have hxn : (List.length (words x.natAbs)) ≤ 100000000 := by rw [hxe]; exact Nat.le_trans (nw_mono (xg_le hb)) (by omega)
  have hm := nz_mul x (zv m xs)
  have hs := nz_sub g (x * zv m xs)
  have hx2 : c % sp = x := by rw [hxe, hce, hst, hge]; rfl
  refine Tri.seq fun K1 hK1 => ?_
  refine Tri.region ?_
  refine Ops.box (Has.t rfl) rfl fun b1 => ?_
  refine Ops.box (Has.t rfl) rfl fun b2 => ?_
  refine Ops.alloc [isB false, SlM isU []] zero37 (fun _ _ => ⟨rfl, nilM _ _, trivial⟩) rfl fun b3 => ?_
  refine Ops.alloc [isB false, SlM isU []] zero37 (fun _ _ => ⟨rfl, nilM _ _, trivial⟩) rfl fun b4 => ?_
  refine Ops.alloc [isB false, SlM isU []] zero37 (fun _ _ => ⟨rfl, nilM _ _, trivial⟩) rfl fun b5 => ?_
  refine nl ?_
  refine At.thn (hK1 _ _ ?_); clear hK1
  refine Tri.seq fun K2 hK2 => ?_
  refine Tri.seq fun K3 hK3 => ?_
  refine Tri.region ?_
  refine st (OK1.load (Has.t rfl) (i := 3) rfl ty37 rfl (Ss' := [_, _]) rfl) rfl ?_
  refine st (OK1.call (zint_Sign (by first | with_reducible assumption | omega | (simp only [val_words, zv_nf]; omega) | (simp only [val_words, zv_nf, Int.natAbs_natCast]; omega) | (simp only [val_words]; exact Nat.le_trans (nw_small' (by omega)) (by decide)))) (.cons (Has.t rfl) .nil)) rfl ?_
  refine st (OK1.eqI (Has.t rfl) (Has.cI 0 rfl)) rfl ?_
  refine nl ?_
  refine At.thn (hK3 _ _ ?_); clear hK3
  refine Tri.cond (Has.t rfl) (fun hc1 => ?_) (fun hc1 => ?_)
  · have hc1 := BP.t hc1
    exact absurd ((sgn_eq0 _).1 hc1) hb
  · have hc1 := BP.f hc1
    refine Tri.skip ?_
    refine At.thn (hK2 _ _ ?_); clear hK2
    refine Tri.cv (Cv.wk (.cons (t := 2) (Has.t rfl) (.cons (t := 3) (Has.t rfl) (.cons (t := 4) (Has.t rfl) (.cons (t := 5) (Has.t rfl) (.cons (t := 6) (Has.t rfl) .nil)))))) ?_
    refine Tri.seq fun K4 hK4 => ?_
    refine Tri.region ?_
    refine st (OK1.load (Has.t rfl) (i := 4) rfl ty37 rfl (Ss' := [_, _]) rfl) rfl ?_
    refine st (OK1.load (Has.t rfl) (i := 3) rfl ty37 rfl (Ss' := [_, _]) rfl) rfl ?_
    refine st (OK1.eq (OK1.call (zint_cofactor (by first | with_reducible assumption | omega | (simp only [val_words, zv_nf]; omega) | (simp only [val_words, zv_nf, Int.natAbs_natCast]; omega) | (simp only [val_words]; exact Nat.le_trans (nw_small' (by omega)) (by decide))) (by first | with_reducible assumption | omega | (simp only [val_words, zv_nf]; omega) | (simp only [val_words, zv_nf, Int.natAbs_natCast]; omega) | (simp only [val_words]; exact Nat.le_trans (nw_small' (by omega)) (by decide)))) (.cons (Has.t rfl) (.cons (Has.t rfl) .nil))) ((show isTup [isZ _, isZ _] = isTup [isZ g, isZ c] from by rw [hce, hge, hg1]))) rfl ?_
    refine st (OK1.mv (Has.t rfl)) rfl ?_
    refine st (OK1.ext (Has.t rfl) rfl) rfl ?_
    refine st (OK1.ext (Has.t rfl) rfl) rfl ?_
    refine Ops.alloc [isB false, SlM isU []] zero37 (fun _ _ => ⟨rfl, nilM _ _, trivial⟩) rfl fun b6 => ?_
    refine Ops.alloc [isB false, SlM isU []] zero37 (fun _ _ => ⟨rfl, nilM _ _, trivial⟩) rfl fun b7 => ?_
    refine Ops.store (Has.t rfl) (Has.t rfl) (i := 1) rfl ty37 rfl rfl (Ss' := [_, _]) rfl (M' := [_, (some _, cellM [_, _]), _, _, _, _, _]) rfl ?_
    refine Ops.store (Has.t rfl) (Has.t rfl) (i := 0) rfl ty37 rfl rfl (Ss' := [_, _]) rfl (M' := [(some _, cellM [_, _]), _, _, _, _, _, _]) rfl ?_
    refine nl ?_
    refine At.thn (hK4 _ _ ?_); clear hK4
    refine Tri.cv (Cv.wk (.cons (t := 2) (Has.t rfl) (.cons (t := 3) (Has.t rfl) (.cons (t := 4) (Has.t rfl) (.cons (t := 5) (Has.t rfl) (.cons (t := 6) (Has.t rfl) (.cons (t := 7) (Has.t rfl) (.cons (t := 8) (Has.t rfl) .nil)))))))) ?_
    refine Tri.seq fun K5 hK5 => ?_
    refine Tri.drh [true, true, true, true, true, true, true] (Ms := [_, _, _, _, _, _, _]) rfl ?_
    refine DrH.st (i := 0) [] rfl rfl rfl (by kernel_rfl) (OKG.o rfl (OK1.load (Has.t rfl) (i := 5) rfl ty37 rfl (Ss' := [_, _]) rfl)) ?_
    refine DrH.st (i := 1) [29] rfl rfl rfl (by kernel_rfl) (OKG.o rfl (OK1.call (zint_Abs (by first | with_reducible assumption | omega | (simp only [val_words, zv_nf]; omega) | (simp only [val_words, zv_nf, Int.natAbs_natCast]; omega) | (simp only [val_words]; exact Nat.le_trans (nw_small' (by omega)) (by decide)))) (.cons (Has.t rfl) .nil))) ?_
    refine DrH.st (i := 2) [] rfl rfl rfl (by kernel_rfl) (OKG.o rfl (OK1.load (Has.t rfl) (i := 1) rfl ty37 rfl (Ss' := [_, _]) rfl)) ?_
    refine DrH.st (i := 3) [30, 31] rfl rfl rfl (by kernel_rfl) (OKG.o rfl (OK1.eq (OK1.call (zint_Exact (by first | with_reducible assumption | omega | (simp only [val_words, zv_nf]; omega) | (simp only [val_words, zv_nf, Int.natAbs_natCast]; omega) | (simp only [val_words]; exact Nat.le_trans (nw_small' (by omega)) (by decide))) (by first | with_reducible assumption | omega | (simp only [val_words, zv_nf]; omega) | (simp only [val_words, zv_nf, Int.natAbs_natCast]; omega) | (simp only [val_words]; exact Nat.le_trans (nw_small' (by omega)) (by decide)))) (.cons (Has.t rfl) (.cons (Has.t rfl) .nil))) ((by simp only [zv_nf]; rw [show (if g ≠ 0 ∧ (((zv n ys).natAbs : Nat) : Int).tmod g = 0 then (((zv n ys).natAbs : Nat) : Int).tdiv g else 0) = sp from by rw [hst, hge, ← hg1]; exact (xg_step hb).trans (by rw [hg1])])))) ?_
    refine DrH.st (i := 4) [32] rfl rfl rfl (by kernel_rfl) (OKG.o rfl (OK1.mv (Has.t rfl))) ?_
    refine DrH.st (i := 5) [28] rfl rfl rfl (by kernel_rfl) (OKG.o rfl (OK1.ext (Has.t rfl) rfl)) ?_
    refine DrH.st (i := 6) [28] rfl rfl rfl (by kernel_rfl) (OKG.o rfl (OK1.ext (Has.t rfl) rfl)) ?_
    refine DrH.als (n1 := 8) (ds := [9]) (zs := [[isB false, SlM isU []]]) rfl (.cons rfl rfl zero37 (fun _ _ => ⟨rfl, nilM _ _, trivial⟩) .nil) (.cons_cons _ (.cons_cons _ (.cons_cons _ (.cons_cons _ (.cons_cons _ (.cons_cons _ (.cons_cons _ .slnil))))))) (Cs := [_]) rfl ?_
    refine DrN.new [33] 0 (Ss' := [_, _]) (Cs' := [cellM [_, _]]) rfl (by kernel_rfl) (by kernel_rfl) rfl rfl rfl (by kernel_rfl) rfl (Has.t rfl) ty37 rfl rfl rfl rfl ?_
    refine DrN.fin (n := 9) mixed rfl (by kernel_rfl) (by kernel_rfl) (by kernel_rfl) (fun bs hbs => ?_)
    obtain ⟨b8, rfl⟩ := len1 hbs
    refine Ops.memEq (M' := [_, _, _, _, _, _, _, _]) rfl ?_
    refine Ops.cv (Cv.wk (.cons (t := 2) (Has.t rfl) (.cons (t := 3) (Has.t rfl) (.cons (t := 4) (Has.t rfl) (.cons (t := 5) (Has.t rfl) (.cons (t := 6) (Has.t rfl) (.cons (t := 7) (Has.t rfl) (.cons (t := 8) (Has.t rfl) (.cons (t := 34) (Has.t rfl) (.cons (t := 9) (Has.op rfl) .nil)))))))))) ?_
    refine st (OK1.as (Has.t rfl)) rfl ?_
    refine nl ?_
    refine At.thn (hK5 _ _ ?_); clear hK5
    refine Tri.seq fun K6 hK6 => ?_
    refine Tri.region ?_
    refine st (OK1.load (Has.t rfl) (i := 1) rfl ty37 rfl (Ss' := [_, _]) rfl) rfl ?_
    refine st (OK1.load (Has.t rfl) (i := 0) rfl ty37 rfl (Ss' := [_, _]) rfl) rfl ?_
    refine st (OK1.eq (OK1.call (zint_Euclid (by first | with_reducible assumption | omega | (simp only [val_words, zv_nf]; omega) | (simp only [val_words, zv_nf, Int.natAbs_natCast]; omega) | (simp only [val_words]; exact Nat.le_trans (nw_small' (by omega)) (by decide))) (by first | with_reducible assumption | omega | (simp only [val_words, zv_nf]; omega) | (simp only [val_words, zv_nf, Int.natAbs_natCast]; omega) | (simp only [val_words]; exact Nat.le_trans (nw_small' (by omega)) (by decide)))) (.cons (Has.t rfl) (.cons (Has.t rfl) .nil))) ((by simp only [zv_nf]; rw [if_neg (show ¬ sp = 0 by omega), hx2]))) rfl ?_
    refine st (OK1.mv (Has.t rfl)) rfl ?_
    refine st (OK1.ext (Has.t rfl) rfl) rfl ?_
    refine st (OK1.ext (Has.t rfl) rfl) rfl ?_
    refine st (OK1.ext (Has.t rfl) rfl) rfl ?_
    refine Ops.store (Has.t rfl) (Has.t rfl) (i := 1) rfl ty37 rfl rfl (Ss' := [_, _]) rfl (M' := [_, (some _, cellM [_, _]), _, _, _, _, _, _]) rfl ?_
    refine nl ?_
    refine At.thn (hK6 _ _ ?_); clear hK6
    refine Tri.cv (Cv.wk (.cons (t := 2) (Has.t rfl) (.cons (t := 3) (Has.t rfl) (.cons (t := 4) (Has.t rfl) (.cons (t := 5) (Has.t rfl) (.cons (t := 6) (Has.t rfl) (.cons (t := 7) (Has.t rfl) (.cons (t := 8) (Has.t rfl) .nil)))))))) ?_
    refine Tri.seq fun K7 hK7 => ?_
    refine Tri.drh [true, true, true, true, true, true, true, true] (Ms := [_, _, _, _, _, _, _, _]) rfl ?_
    refine DrH.st (i := 0) [] rfl rfl rfl (by kernel_rfl) (OKG.o rfl (OK1.load (Has.t rfl) (i := 2) rfl ty37 rfl (Ss' := [_, _]) rfl)) ?_
    refine DrH.st (i := 1) [] rfl rfl rfl (by kernel_rfl) (OKG.o rfl (OK1.load (Has.t rfl) (i := 1) rfl ty37 rfl (Ss' := [_, _]) rfl)) ?_
    refine DrH.st (i := 2) [] rfl rfl rfl (by kernel_rfl) (OKG.o rfl (OK1.load (Has.t rfl) (i := 7) rfl ty37 rfl (Ss' := [_, _]) rfl)) ?_
    refine DrH.st (i := 3) [44, 45] rfl rfl rfl (by kernel_rfl) (OKG.o rfl (OK1.eq (OK1.call (zint_Mul (by first | with_reducible assumption | omega | (simp only [val_words, zv_nf]; omega) | (simp only [val_words, zv_nf, Int.natAbs_natCast]; omega) | (simp only [val_words]; exact Nat.le_trans (nw_small' (by omega)) (by decide))) (by first | with_reducible assumption | omega | (simp only [val_words, zv_nf]; omega) | (simp only [val_words, zv_nf, Int.natAbs_natCast]; omega) | (simp only [val_words]; exact Nat.le_trans (nw_small' (by omega)) (by decide)))) (.cons (Has.t rfl) (.cons (Has.t rfl) .nil))) (by first | (simp only [val_words, zv_nf]; rfl) | rfl))) ?_
    refine DrH.st (i := 4) [43, 46] rfl rfl rfl (by kernel_rfl) (OKG.o rfl (OK1.eq (OK1.call (zint_Sub (by first | with_reducible assumption | omega | (simp only [val_words, zv_nf]; omega) | (simp only [val_words, zv_nf, Int.natAbs_natCast]; omega) | (simp only [val_words]; exact Nat.le_trans (nw_small' (by omega)) (by decide))) (by first | with_reducible assumption | omega | (simp only [val_words, zv_nf]; omega) | (simp only [val_words, zv_nf, Int.natAbs_natCast]; omega) | (simp only [val_words]; exact Nat.le_trans (nw_small' (by omega)) (by decide)))) (.cons (Has.t rfl) (.cons (Has.t rfl) .nil))) (by first | (simp only [val_words, zv_nf]; rfl) | rfl))) ?_
    refine DrH.st (i := 5) [] rfl rfl rfl (by kernel_rfl) (OKG.o rfl (OK1.load (Has.t rfl) (i := 6) rfl ty37 rfl (Ss' := [_, _]) rfl)) ?_
    refine DrH.st (i := 6) [47, 48] rfl rfl rfl (by kernel_rfl) (OKG.o rfl (OK1.eq (OK1.call (zint_Exact (by first | with_reducible assumption | omega | (simp only [val_words, zv_nf]; omega) | (simp only [val_words, zv_nf, Int.natAbs_natCast]; omega) | (simp only [val_words]; exact Nat.le_trans (nw_small' (by omega)) (by decide))) (by first | with_reducible assumption | omega | (simp only [val_words, zv_nf]; omega) | (simp only [val_words, zv_nf, Int.natAbs_natCast]; omega) | (simp only [val_words]; exact Nat.le_trans (nw_small' (by omega)) (by decide)))) (.cons (Has.t rfl) (.cons (Has.t rfl) .nil))) (by first | (simp only [val_words, zv_nf]; rfl) | rfl))) ?_
    refine DrH.st (i := 7) [49] rfl rfl rfl (by kernel_rfl) (OKG.o rfl (OK1.mv (Has.t rfl))) ?_
    refine DrH.st (i := 8) [42] rfl rfl rfl (by kernel_rfl) (OKG.o rfl (OK1.ext (Has.t rfl) rfl)) ?_
    refine DrH.st (i := 9) [42] rfl rfl rfl (by kernel_rfl) (OKG.o rfl (OK1.ext (Has.t rfl) rfl)) ?_
    refine DrH.als (n1 := 11) (ds := [11]) (zs := [[isB false, SlM isU []]]) rfl (.cons rfl rfl zero37 (fun _ _ => ⟨rfl, nilM _ _, trivial⟩) .nil) (.cons_cons _ (.cons_cons _ (.cons_cons _ (.cons_cons _ (.cons_cons _ (.cons_cons _ (.cons_cons _ (.cons_cons _ .slnil)))))))) (Cs := [_]) rfl ?_
    refine DrN.new [50] 0 (Ss' := [_, _]) (Cs' := [cellM [_, _]]) rfl (by kernel_rfl) (by kernel_rfl) rfl rfl rfl (by kernel_rfl) rfl (Has.t rfl) ty37 rfl rfl rfl rfl ?_
    refine DrN.fin (n := 12) mixed rfl (by kernel_rfl) (by kernel_rfl) (by kernel_rfl) (fun bs hbs => ?_)
    obtain ⟨b9, rfl⟩ := len1 hbs
    refine Ops.memEq (M' := [_, _, _, _, _, _, _, _, _]) rfl ?_
    refine Ops.cv (Cv.wk (.cons (t := 4) (Has.t rfl) (.cons (t := 5) (Has.t rfl) (.cons (t := 6) (Has.t rfl) (.cons (t := 7) (Has.t rfl) (.cons (t := 8) (Has.t rfl) (.cons (t := 51) (Has.t rfl) (.cons (t := 11) (Has.op rfl) .nil)))))))) ?_
    refine st (OK1.as (Has.t rfl)) rfl ?_
    refine nl ?_
    refine At.thn (hK7 _ _ ?_); clear hK7
    refine Tri.seq fun K8 hK8 => ?_
    refine Tri.drh [true, true, true, true, true, false, false, true, true] (Ms := [_, _, _, _, _, _, _]) rfl ?_
    refine DrH.st (i := 0) [] rfl rfl rfl (by kernel_rfl) (OKG.o rfl (OK1.load (Has.t rfl) (i := 3) rfl ty37 rfl (Ss' := [_, _]) rfl)) ?_
    refine DrH.st (i := 1) [] rfl rfl rfl (by kernel_rfl) (OKG.o rfl (OK1.load (Has.t rfl) (i := 2) rfl ty37 rfl (Ss' := [_, _]) rfl)) ?_
    refine DrH.st (i := 2) [] rfl rfl rfl (by kernel_rfl) (OKG.o rfl (OK1.load (Has.t rfl) (i := 0) rfl ty37 rfl (Ss' := [_, _]) rfl)) ?_
    refine DrH.mid (.cons_cons _ (.cons_cons _ (.cons_cons _ (.cons_cons _ (.cons_cons _ (.cons _ (.cons _ (.cons_cons _ (.cons_cons _ .slnil))))))))) ?_
    refine DrM.st [52] rfl rfl (by kernel_rfl) (by kernel_rfl) (StS.store (Has.t rfl) (Has.t rfl) (i := 6) rfl ty37 rfl rfl (Ss' := [_, _]) rfl (M' := [_, _, _, _, _, _, (some _, cellM [_, _]), _, _]) rfl) (.cons_cons _ (.cons_cons _ (.cons_cons _ (.cons_cons _ (.cons_cons _ (.cons _ (.cons _ (.cons_cons _ (.cons_cons _ .slnil))))))))) ?_
    refine DrM.st [53] rfl rfl (by kernel_rfl) (by kernel_rfl) (StS.store (Has.t rfl) (Has.t rfl) (i := 5) rfl ty37 rfl rfl (Ss' := [_, _]) rfl (M' := [_, _, _, _, _, (some _, cellM [_, _]), _, _, _]) rfl) (.cons_cons _ (.cons_cons _ (.cons_cons _ (.cons_cons _ (.cons_cons _ (.cons _ (.cons _ (.cons_cons _ (.cons_cons _ .slnil))))))))) ?_
    refine DrM.fin (n := 5) mixed rfl (by kernel_rfl) (by kernel_rfl) (by kernel_rfl) ?_
    refine Ops.cv (Cv.wk (.cons (t := 4) (Has.t rfl) (.cons (t := 5) (Has.t rfl) (.cons (t := 6) (Has.t rfl) (.cons (t := 54) (Has.t rfl) .nil))))) ?_
    refine Ops.store (Has.t rfl) (Has.t rfl) (i := 4) rfl ty37 rfl rfl (Ss' := [_, _]) rfl (M' := [_, _, _, _, (some _, cellM [_, _]), _, _, _, _]) rfl ?_
    refine nl ?_
    refine At.thn (hK8 _ _ ?_); clear hK8
    refine Tri.ret ?_
    refine rtN (.inl rfl) Try.results61 rfl rfl (.cell rfl (i := 6) rfl ty37 rfl ?_ (.cell rfl (i := 5) rfl ty37 rfl ?_ (.cell rfl (i := 4) rfl ty37 rfl ?_ .nil)))
    · exact isZ_eq hge
    · exact isZ_eq hxe
    · exact isZ_eq (by rw [hge, hxe])
end Go.Proofs.Ytcfobfedliajdaa
