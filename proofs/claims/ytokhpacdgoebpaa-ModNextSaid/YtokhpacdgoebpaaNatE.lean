/- Beginning and end of a division; bits of numbers; the root. No program here. -/
import Derived.Test.YtokhpacdgoebpaaNatQ
namespace Go.Nt
theorem top_div {B n : Nat} (hn : (List.length (words B)) = n + 1) : B / W ^ n = dig B n := by
  have hB : B < W ^ (n + 1) := hn ▸ nw_lt B
  rw [dig_def, Nat.mod_eq_of_lt]
  rw [Nat.div_lt_iff_lt_mul (pow_pos' _), Nat.mul_comm, ← Nat.pow_succ]; exact hB
theorem shift_fits {B k : Nat} (h : B ≠ 0) (hk : k = 64 - bitLen (dig B ((List.length (words B)) - 1))) : (List.length (words (B * 2 ^ k))) = (List.length (words B)) := by
  have hl := lead (dig_lt B ((List.length (words B)) - 1)) (dig_top h) hk
  obtain ⟨n, hn⟩ : ∃ n, (List.length (words B)) = n + 1 := ⟨(List.length (words B)) - 1, by have := nw_pos h; omega⟩
  have hd := top_div hn
  rw [hn, Nat.add_sub_cancel] at hl
  rw [← hd] at hl
  have hk64 : k ≤ 64 := by omega
  have hp : 0 < 2 ^ k := Nat.pow_pos (by decide)
  have h1 : B < (B / W ^ n + 1) * W ^ n := by
    have := Nat.div_add_mod B (W ^ n)
    have := Nat.mod_lt B (pow_pos' n)
    rw [Nat.add_mul, Nat.mul_comm (B / W ^ n)]; omega
  have h23 : ∀ t : Nat, t * 2 ^ k < 18446744073709551616 → (t + 1) * 2 ^ k ≤ W := fun t h4 => by
    rw [show (18446744073709551616 : Nat) = W from rfl, ← two64 hk64] at h4
    have := Nat.mul_le_mul_right (2 ^ k) (Nat.lt_of_mul_lt_mul_right h4)
    rwa [two64 hk64] at this
  have h3 := h23 _ hl.2
  have h4 : B * 2 ^ k < W ^ (n + 1) := by
    calc B * 2 ^ k < (B / W ^ n + 1) * W ^ n * 2 ^ k := Nat.mul_lt_mul_of_pos_right h1 hp
      _ = (B / W ^ n + 1) * 2 ^ k * W ^ n := by rw [Nat.mul_right_comm]
      _ ≤ W * W ^ n := Nat.mul_le_mul_right _ h3
      _ = W ^ (n + 1) := by rw [Nat.pow_succ, Nat.mul_comm]
  have h5 := nw_le h4
  have h6 := nw_mono (Nat.le_mul_of_pos_right B hp)
  omega
theorem lead_lt {B k : Nat} (h : B ≠ 0) (hk : k = 64 - bitLen (dig B ((List.length (words B)) - 1))) : k < 64 := by
  have := bitLen_pos (dig_top h); omega
theorem shift_len {A k : Nat} (hk : k < 64) : (List.length (words (A * 2 ^ k))) ≤ (List.length (words A)) + 1 := by
  apply nw_le
  have h1 := nw_lt A
  have h2 : 2 ^ k ≤ W := by have : 2 ^ k ≤ 2 ^ 64 := Nat.pow_le_pow_right (by decide) (by omega); exact this
  calc A * 2 ^ k < W ^ (List.length (words A)) * 2 ^ k := Nat.mul_lt_mul_of_pos_right h1 (Nat.pow_pos (by decide))
    _ ≤ W ^ (List.length (words A)) * W := Nat.mul_le_mul_left _ h2
    _ = W ^ ((List.length (words A)) + 1) := by rw [Nat.pow_succ]
theorem copy_words {N m : Nat} (h : (List.length (words N)) ≤ m) : (List.replicate m 0).take 0 ++ words N ++ (List.replicate m 0).drop (0 + (List.length (words N))) = wordsN m N := by
  refine eq_wordsN ?_ ?_ ?_
  · rw [List.take_zero, List.nil_append]
    refine ok_append (words_ok N) (fun x hx => ?_)
    have := List.mem_of_mem_drop hx
    rw [List.mem_replicate] at this
    rw [this.2]; decide
  · simp; omega
  · rw [List.take_zero, List.nil_append, val_append, List.drop_replicate, val_replicate, Nat.mul_zero, Nat.add_zero, val_words, Nat.mod_eq_of_lt (lt_pow_of h)]
theorem le_of_nw2 {A B : Nat} (hB : B ≠ 0) (h : (List.length (words B)) ≤ (List.length (words A)) + 1) : A < B * W ^ ((List.length (words A)) + 1 - (List.length (words B))) := by
  have h1 := le_of_nw hB
  have hp := nw_pos hB
  calc A < W ^ (List.length (words A)) := nw_lt A
    _ = W ^ ((List.length (words B)) - 1) * W ^ ((List.length (words A)) + 1 - (List.length (words B))) := by rw [← Nat.pow_add]; congr 1; omega
    _ ≤ B * W ^ ((List.length (words A)) + 1 - (List.length (words B))) := Nat.mul_le_mul_right _ h1
/-- what DivMod hands to long division -/
structure Dm (A B k : Nat) : Prop where
  k64 : k < 64
  v : (List.length (words (B * 2 ^ k))) = (List.length (words B))
  w : (List.length (words (A * 2 ^ k))) ≤ (List.length (words A)) + 1
  lt : A * 2 ^ k < B * 2 ^ k * W ^ ((List.length (words A)) + 1 - (List.length (words (B * 2 ^ k))))
  le : (List.length (words B)) ≤ (List.length (words A))
theorem dm {A B k : Nat} (hB : B ≠ 0) (hle : B ≤ A) (hk : k = 64 - bitLen (dig B ((List.length (words B)) - 1))) : Dm A B k := by
  have h1 := lead_lt hB hk
  have h2 := shift_fits hB hk
  have h3 := nw_mono hle
  refine ⟨h1, h2, shift_len h1, ?_, h3⟩
  rw [h2, Nat.mul_right_comm]
  exact Nat.mul_lt_mul_of_pos_right (le_of_nw2 hB (by omega)) (Nat.pow_pos (by decide))
theorem dm_quo {A B k m n : Nat} (hB : B ≠ 0) (D : Dm A B k) (hm : m = (List.length (words A)) + 1) (hn : n = (List.length (words (B * 2 ^ k)))) : words (val (wordsN (m - n) (A * 2 ^ k / (B * 2 ^ k)))) = words (A / B) := by
  subst hm; subst hn
  have hp : 0 < 2 ^ k := Nat.pow_pos (by decide)
  rw [Nat.mul_div_mul_right _ _ hp, words_val_wordsN]
  rw [D.v, Nat.div_lt_iff_lt_mul (by omega), Nat.mul_comm]
  exact le_of_nw2 hB (by have := D.le; omega)
theorem dm_rest {A B k m : Nat} (hB : B ≠ 0) (D : Dm A B k) (hm : m = (List.length (words A)) + 1) : val (wordsN m (left (A * 2 ^ k) (B * 2 ^ k) 0)) / 2 ^ k = A % B := by
  subst hm
  have hp : 0 < 2 ^ k := Nat.pow_pos (by decide)
  have e : left (A * 2 ^ k) (B * 2 ^ k) 0 = A % B * 2 ^ k := by
    unfold left
    rw [Nat.pow_zero, Nat.mod_one, Nat.div_one, Nat.zero_add, Nat.one_mul, Nat.mul_mod_mul_right]
  rw [e, val_wordsN, Nat.mod_eq_of_lt, Nat.mul_div_cancel _ hp]
  refine Nat.lt_of_le_of_lt (Nat.mul_le_mul_right _ (Nat.mod_le A B)) (lt_pow_of D.w)
theorem nw_val_wordsN (m N : Nat) : (List.length (words (val (wordsN m N)))) ≤ m := by
  have := nw_val (wordsN_ok m N); rwa [wordsN_len] at this
theorem mod_lt_W {A B : Nat} (hB : B < 18446744073709551616) (h : B ≠ 0) : A % B < 18446744073709551616 := Nat.lt_trans (Nat.mod_lt _ (by omega)) hB
/-! ### bits -/
def bitsN (n : Nat) : Nat := bitLen n
theorem bitLen_uniq {n k : Nat} (h1 : n < 2 ^ k) (h2 : n ≠ 0 → 2 ^ (k - 1) ≤ n) (h0 : n = 0 → k = 0) : bitLen n = k := by
  have h := bitLen_spec n
  by_cases hn : n = 0
  · rw [h0 hn]; subst hn; rfl
  have a := h.2 hn
  have b := h2 hn
  have c := h.1
  have p := bitLen_pos hn
  have hk : 0 < k := by
    rcases Nat.eq_zero_or_pos k with e | e
    · subst e; simp at h1; omega
    · exact e
  have e1 : bitLen n - 1 < k := (Nat.pow_lt_pow_iff_right (by decide : 1 < 2)).1 (Nat.lt_of_le_of_lt a h1)
  have e2 : k - 1 < bitLen n := (Nat.pow_lt_pow_iff_right (by decide : 1 < 2)).1 (Nat.lt_of_le_of_lt b c)
  omega
theorem W_pow (n : Nat) : W ^ n = 2 ^ (64 * n) := by rw [Nat.pow_mul]
theorem bits_words {A : Nat} (h : A ≠ 0) : 64 * ((List.length (words A)) - 1) + bitLen (dig A ((List.length (words A)) - 1)) = bitLen A := by
  obtain ⟨n, hn⟩ : ∃ n, (List.length (words A)) = n + 1 := ⟨(List.length (words A)) - 1, by have := nw_pos h; omega⟩
  have hd := top_div hn
  have ht := dig_top h
  rw [hn, Nat.add_sub_cancel] at *
  obtain ⟨t, hte⟩ : ∃ t, t = dig A n := ⟨_, rfl⟩
  rw [← hte] at ht hd ⊢
  have hs := bitLen_spec t
  have hp := bitLen_pos ht
  have e := Nat.div_add_mod A (W ^ n)
  have hm := Nat.mod_lt A (pow_pos' n)
  rw [hd] at e
  generalize A % W ^ n = low at *
  symm
  apply bitLen_uniq
  · rw [Nat.pow_add, ← W_pow]
    have : W ^ n * (t + 1) ≤ W ^ n * 2 ^ bitLen t := Nat.mul_le_mul_left _ hs.1
    rw [Nat.mul_add] at this; omega
  · intro _
    rw [Nat.add_sub_assoc (by omega), Nat.pow_add, ← W_pow]
    have : W ^ n * 2 ^ (bitLen t - 1) ≤ W ^ n * t := Nat.mul_le_mul_left _ (hs.2 ht)
    omega
  · intro h0; exact absurd h0 h
theorem bits_zero {A : Nat} (h : (List.length (words A)) = 0) : A = 0 := of_words_nil (List.eq_nil_of_length_eq_zero h)
theorem bitLen_le {n k : Nat} (h : n < W ^ k) : bitLen n ≤ 64 * k := by
  by_cases hn : n = 0
  · subst hn; simp [bitLen]
  have h2 := (bitLen_spec n).2 hn
  rw [W_pow] at h
  have := (Nat.pow_lt_pow_iff_right (by decide : 1 < 2)).1 (Nat.lt_of_le_of_lt h2 h)
  omega
theorem bits_nw (A : Nat) : bitLen A ≤ 64 * (List.length (words A)) := bitLen_le (nw_lt A)
/-! ### powers of two, as words -/
theorem pow2_words {n m : Nat} (hm : m = n / 64 + 1) : (List.replicate m 0).set (n / 64) (1 * 2 ^ (n % 64) % 18446744073709551616) = words (2 ^ n) := by
  have hlt : 2 ^ (n % 64) < W := by
    have : 2 ^ (n % 64) < 2 ^ 64 := Nat.pow_lt_pow_right (by decide) (Nat.mod_lt _ (by decide))
    exact this
  have hw : (List.length (words (2 ^ n))) = n / 64 + 1 := by
    have h1 : (List.length (words (2 ^ n))) ≤ n / 64 + 1 := nw_le (by
      rw [pow_split n, Nat.pow_succ]; exact Nat.mul_lt_mul_of_pos_left hlt (pow_pos' _))
    have h2 : ¬ (List.length (words (2 ^ n))) ≤ n / 64 := fun h => by
      have h3 := lt_pow_of h
      rw [pow_split n] at h3
      have := Nat.le_mul_of_pos_right (W ^ (n / 64)) (show 0 < 2 ^ (n % 64) from Nat.pow_pos (by decide))
      omega
    omega
  subst hm
  rw [words_wordsN, hw, Nat.one_mul, Nat.mod_eq_of_lt hlt]
  refine eq_wordsN ?_ (by simp) ?_
  · intro x hx
    rcases List.mem_or_eq_of_mem_set hx with h | h
    · rw [List.mem_replicate] at h; rw [h.2]; decide
    · rw [h]; exact hlt
  · rw [List.replicate_succ', List.set_append_right _ _ (by simp), val_append, val_replicate]
    simp only [List.length_replicate, Nat.sub_self, List.set_cons_zero, val, Nat.zero_add, Nat.mul_zero, Nat.add_zero]
    rw [← pow_split, Nat.mod_eq_of_lt]
    rw [pow_split n, Nat.pow_succ]; exact Nat.mul_lt_mul_of_pos_left hlt (pow_pos' _)
/-! ### the root -/
theorem sq4 (x y : Nat) : 4 * (x * y) ≤ (x + y) * (x + y) := by
  rcases Nat.le_total x y with h | h
  · obtain ⟨d, rfl⟩ := Nat.exists_eq_add_of_le h
    have : (x + (x + d)) * (x + (x + d)) = 4 * (x * (x + d)) + d * d := by
      simp only [Nat.mul_add, Nat.add_mul, Nat.mul_comm d x]; omega
    omega
  · obtain ⟨d, rfl⟩ := Nat.exists_eq_add_of_le h
    have : ((y + d) + y) * ((y + d) + y) = 4 * ((y + d) * y) + d * d := by
      simp only [Nat.mul_add, Nat.add_mul, Nat.mul_comm d y]; omega
    omega
theorem root_step {A r : Nat} (hr : 0 < r) : A < ((r + A / r) / 2 + 1) * ((r + A / r) / 2 + 1) := by
  obtain ⟨q, hq⟩ : ∃ q, q = A / r := ⟨_, rfl⟩
  rw [← hq]
  have h1 : A < r * (q + 1) := by
    have := Nat.div_add_mod A r
    have := Nat.mod_lt A hr
    rw [Nat.mul_add, hq]; omega
  obtain ⟨s, hs⟩ : ∃ s, s = (r + q) / 2 + 1 := ⟨_, rfl⟩
  rw [← hs]
  have h2 : r + (q + 1) ≤ 2 * s := by omega
  have h3 := sq4 r (q + 1)
  have h4 : (r + (q + 1)) * (r + (q + 1)) ≤ 2 * s * (2 * s) := Nat.mul_le_mul h2 h2
  have h5 : 2 * s * (2 * s) = 4 * (s * s) := by rw [Nat.mul_mul_mul_comm]
  omega
theorem root_start {A n : Nat} (hn : n = (bitLen A + 1) / 2) : A < (2 ^ n + 1) * (2 ^ n + 1) := by
  have h := (bitLen_spec A).1
  have : 2 ^ bitLen A ≤ 2 ^ (n + n) := Nat.pow_le_pow_right (by decide) (by omega)
  rw [Nat.pow_add] at this
  rw [Nat.add_mul, Nat.mul_add]; omega
theorem root_end {A r : Nat} (hr : 0 < r) (h : r ≤ (r + A / r) / 2) : r * r ≤ A := by
  have : r ≤ A / r := by omega
  rw [Nat.le_div_iff_mul_le hr] at this; exact this
theorem root_pos {A r : Nat} (hA : A ≠ 0) (h : A < (r + 1) * (r + 1)) : 0 < r := by
  rcases Nat.eq_zero_or_pos r with e | e
  · subst e; omega
  · exact e
end Go.Nt
