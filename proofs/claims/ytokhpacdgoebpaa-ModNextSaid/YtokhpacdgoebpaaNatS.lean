/- Numbers shifted. No program here. -/
import Derived.Test.YtokhpacdgoebpaaNatN
namespace Go.Nt
theorem or_add {a b r : Nat} (h : a < 2 ^ r) : a ||| 2 ^ r * b = a + 2 ^ r * b := by
  rw [Nat.or_comm, ← Nat.two_pow_add_eq_or_of_lt h, Nat.add_comm]
theorem add_or {a b r : Nat} (h : b < 2 ^ r) : b ||| a * 2 ^ r = b + a * 2 ^ r := by rw [Nat.mul_comm a]; exact or_add h
theorem two64 {r : Nat} (h : r ≤ 64) : 2 ^ (64 - r) * 2 ^ r = W := by
  rw [← Nat.pow_add, Nat.sub_add_cancel h]
theorem pow_split (k : Nat) : 2 ^ k = W ^ (k / 64) * 2 ^ (k % 64) := by
  have : W = 2 ^ 64 := rfl
  rw [this, ← Nat.pow_mul, ← Nat.pow_add]; congr 1; omega
theorem mul_mod_W {d r : Nat} (h : r ≤ 64) : d * 2 ^ r % W = d % 2 ^ (64 - r) * 2 ^ r := by
  rw [← two64 h, Nat.mul_mod_mul_right]
theorem mod_mul_lt {d r : Nat} (h : r ≤ 64) : d % 2 ^ (64 - r) * 2 ^ r + 2 ^ r ≤ W := by
  have : d % 2 ^ (64 - r) + 1 ≤ 2 ^ (64 - r) := Nat.mod_lt _ (Nat.pow_pos (by decide))
  rw [← two64 h, ← Nat.succ_mul]; exact Nat.mul_le_mul_right _ this
/-- one word shifted up, with what came from below -/
theorem shl_word {n d r : Nat} (hr : r ≤ 64) (hn : n < 2 ^ r) : n ||| d * 2 ^ r % W = (n + d * 2 ^ r) % W ∧ (n + d * 2 ^ r) / W = d / 2 ^ (64 - r) := by
  have h1 := mul_mod_W (d := d) hr
  have h2 := mod_mul_lt (d := d) hr
  have h3 : d * 2 ^ r / W = d / 2 ^ (64 - r) := by rw [← two64 hr, Nat.mul_div_mul_right _ _ (Nat.pow_pos (by decide))]
  rw [h1, add_or hn]
  rw [← h1] at h2 ⊢
  generalize d * 2 ^ r = D at *
  generalize 2 ^ r = p at *
  rw [← h3]
  clear h1 h3
  unfold W at *
  constructor <;> omega
theorem shl_next (A k i : Nat) : A % W ^ (i + 1) * 2 ^ k = A % W ^ i * 2 ^ k + W ^ (k / 64 + i) * (dig A i * 2 ^ (k % 64)) := by
  rw [mod_succ, Nat.add_mul]
  congr 1
  rw [pow_split k, Nat.pow_add]
  generalize 2 ^ (k % 64) = r
  generalize W ^ (k / 64) = w
  grind
theorem shl_low (A k i : Nat) : A % W ^ i * 2 ^ k / W ^ (k / 64 + i) < 2 ^ (k % 64) := by
  have h := Nat.mod_lt A (pow_pos' i)
  rw [Nat.div_lt_iff_lt_mul (pow_pos' _), pow_split k, Nat.pow_add]
  have hw := pow_pos' (k / 64)
  have hr : 0 < 2 ^ (k % 64) := Nat.pow_pos (by decide)
  generalize 2 ^ (k % 64) = r at *
  generalize W ^ (k / 64) = w at *
  have : A % W ^ i * (w * r) < W ^ i * (w * r) := Nat.mul_lt_mul_of_pos_right h (Nat.mul_pos hw hr)
  have e : r * (w * W ^ i) = W ^ i * (w * r) := by grind
  rw [e]; exact this
theorem shl_low_W {A k i : Nat} : A % W ^ i * 2 ^ k / W ^ (k / 64 + i) < W :=
  Nat.lt_of_lt_of_le (shl_low A k i) (by have := Nat.pow_le_pow_right (n := 2) (by decide) (by omega : k % 64 ≤ 64); simpa [W] using this)
theorem shl_get {A k i m : Nat} (h : k / 64 + i < m) : (wordsN m (A % W ^ i * 2 ^ k)).getD (k / 64 + i) 0 = A % W ^ i * 2 ^ k / W ^ (k / 64 + i) := by
  rw [wordsN_getD h, dig, Nat.mod_eq_of_lt shl_low_W]
theorem div_succ' (N k : Nat) : N / W ^ (k + 1) = N / W ^ k / W := by rw [Nat.pow_succ, Nat.div_div_eq_div_mul]
theorem dig_def (n i : Nat) : dig n i = n / W ^ i % W := rfl
theorem shl_hi {A k i : Nat} : (A % W ^ (i + 1) * 2 ^ k) / W ^ (k / 64 + i + 1) = dig A i / 2 ^ (64 - k % 64) := by
  rw [div_succ', shl_next, shifted, (shl_word (by omega) (shl_low A k i)).2]
theorem shl_set1 {A k i m v : Nat} (h : k / 64 + i < m) (hv : v = A % W ^ i * 2 ^ k / W ^ (k / 64 + i) ||| dig A i * 2 ^ (k % 64) % W) :
    (wordsN m (A % W ^ i * 2 ^ k)).set (k / 64 + i) v = mix (k / 64 + i + 1) (A % W ^ (i + 1) * 2 ^ k) (A % W ^ i * 2 ^ k) m := by
  rw [mix_start (Nat.le_of_lt h) (N' := A % W ^ (i + 1) * 2 ^ k) (by rw [shl_next, shifted_mod]), mix_set h rfl]
  rw [hv, (shl_word (by omega) (shl_low A k i)).1, dig_def (A % W ^ (i + 1) * 2 ^ k), shl_next, shifted]
theorem shl_end0 {A k i m : Nat} (h : k / 64 + i < m) (hk : k % 64 = 0) : mix (k / 64 + i + 1) (A % W ^ (i + 1) * 2 ^ k) (A % W ^ i * 2 ^ k) m = wordsN m (A % W ^ (i + 1) * 2 ^ k) := by
  refine mix_end h ?_
  rw [shl_hi, div_succ', Nat.div_eq_of_lt shl_low_W, hk, Nat.div_eq_of_lt]
  have := dig_lt A i
  simpa [W] using this
theorem shl_set2 {A k i m v j : Nat} (h : k / 64 + i + 1 < m) (hj : j = k / 64 + i + 1) (hk : 0 < k % 64) (hv : v = dig A i / 2 ^ (64 - k % 64)) :
    (mix (k / 64 + i + 1) (A % W ^ (i + 1) * 2 ^ k) (A % W ^ i * 2 ^ k) m).set j v = wordsN m (A % W ^ (i + 1) * 2 ^ k) := by
  have h1 : dig A i / 2 ^ (64 - k % 64) < W := Nat.lt_of_le_of_lt (Nat.div_le_self _ _) (dig_lt A i)
  rw [mix_set h hj (by rw [hv, dig_def (A % W ^ (i + 1) * 2 ^ k), shl_hi, Nat.mod_eq_of_lt h1])]
  refine mix_end h ?_
  rw [div_succ' _ (k / 64 + i + 1), div_succ' _ (k / 64 + i + 1), shl_hi, Nat.div_eq_of_lt h1, div_succ', Nat.div_eq_of_lt shl_low_W, Nat.zero_div]
theorem shlStart (A k m : Nat) : List.replicate m 0 = wordsN m (A % W ^ 0 * 2 ^ k) := by
  rw [Nat.pow_zero, Nat.mod_one, Nat.zero_mul]
  exact eq_wordsN (fun x hx => by rw [List.mem_replicate] at hx; rw [hx.2]; decide) (by simp) (by rw [val_replicate]; simp)
theorem pow2_le (k : Nat) : 2 ^ k ≤ W ^ (k / 64 + 1) := by
  rw [pow_split, Nat.pow_succ]
  refine Nat.mul_le_mul_left _ ?_
  have := Nat.pow_le_pow_right (n := 2) (by decide) (by omega : k % 64 ≤ 64); simpa [W] using this
theorem shlEnd {A k m : Nat} (h : (List.length (words A)) + k / 64 + 1 = m) : words (val (wordsN m (A % W ^ (List.length (words A)) * 2 ^ k))) = words (A * 2 ^ k) := by
  rw [Nat.mod_eq_of_lt (nw_lt A), words_val_wordsN]
  rw [← h, Nat.add_assoc, Nat.pow_add]
  have h1 := nw_lt A
  exact Nat.lt_of_lt_of_le (Nat.mul_lt_mul_of_pos_right h1 (Nat.pow_pos (by decide))) (Nat.mul_le_mul_left _ (pow2_le k))
/-- one word shifted down, with what comes from above -/
theorem shr_dig (X i : Nat) {r : Nat} (hr : r ≤ 64) : dig X i / 2 ^ r ||| dig X (i + 1) * 2 ^ (64 - r) % W = dig (X / 2 ^ r) i := by
  have e1 : X / 2 ^ r / W ^ i = X / W ^ i / 2 ^ r := by rw [Nat.div_div_eq_div_mul, Nat.mul_comm, ← Nat.div_div_eq_div_mul]
  have h0 := dig_lt X i
  have e2 := div_succ X i
  have e3 := div_succ X (i + 1)
  have e4 := two64 hr
  have h4 : 64 - (64 - r) = r := by omega
  have h5 := mul_mod_W (d := dig X (i + 1)) (r := 64 - r) (by omega)
  rw [show dig (X / 2 ^ r) i = X / 2 ^ r / W ^ i % W from rfl, e1, e2, e3]
  have hp : 0 < 2 ^ r := Nat.pow_pos (by decide)
  have h6 : dig X i / 2 ^ r < 2 ^ (64 - r) := by rw [Nat.div_lt_iff_lt_mul hp, e4]; exact h0
  have h7 := mod_mul_lt (d := dig X (i + 1)) (r := 64 - r) (by omega)
  rw [h5, add_or h6, ← h5]
  rw [← h5] at h7
  have e5 : (W * (W * (X / W ^ (i + 1 + 1)) + dig X (i + 1)) + dig X i) / 2 ^ r = dig X i / 2 ^ r + dig X (i + 1) * 2 ^ (64 - r) + W * (X / W ^ (i + 1 + 1) * 2 ^ (64 - r)) := by
    have : W * (W * (X / W ^ (i + 1 + 1)) + dig X (i + 1)) + dig X i = dig X i + 2 ^ r * (2 ^ (64 - r) * (W * (X / W ^ (i + 1 + 1)) + dig X (i + 1))) := by
      rw [← Nat.mul_assoc, Nat.mul_comm (2 ^ r), e4]; omega
    rw [this, Nat.add_mul_div_left _ _ hp]
    generalize 2 ^ (64 - r) = q at *
    generalize X / W ^ (i + 1 + 1) = y
    generalize dig X (i + 1) = z
    generalize dig X i / 2 ^ r = t
    grind
  rw [e5, Nat.add_mul_mod_self_left]
  generalize dig X (i + 1) * 2 ^ (64 - r) = D at *
  generalize dig X i / 2 ^ r = t at *
  generalize 2 ^ (64 - r) = q at *
  clear e1 e2 e3 e4 e5 h5
  unfold W at *
  omega
theorem drop_words (A w : Nat) : (words A).drop w = words (A / W ^ w) := by
  induction w generalizing A with
  | zero => simp
  | succ w ih =>
    by_cases h : A = 0
    · subst h; rw [words_zero]; simp [words_zero]
    · rw [words_pos h, List.drop_succ_cons, ih, Nat.div_div_eq_div_mul, Nat.pow_succ, Nat.mul_comm W]
theorem nw_div (A w : Nat) : (List.length (words (A / W ^ w))) = (List.length (words A)) - w := by rw [← drop_words]; simp
theorem div_split (A k : Nat) : A / W ^ (k / 64) / 2 ^ (k % 64) = A / 2 ^ k := by rw [pow_split k, Nat.div_div_eq_div_mul]
theorem shr_set2 {N i m v e : Nat} (h : i < m) (hv : v ||| e = dig N i) : ((wpart N i m).set i v).set i ((((wpart N i m).set i v).getD i 0) ||| e) = wpart N (i + 1) m := by
  have hl : (wpart N i m).length = m := wpart_len (by omega)
  have e1 : ((wpart N i m).set i v).getD i 0 = v := by
    rw [List.getD_eq_getElem?_getD, List.getElem?_set_self (by rw [hl]; exact h)]; rfl
  rw [e1, List.set_set, wpart_set h hv]
theorem shr_step2 {X i m r : Nat} (hr : r < 64) (h : i < m) : ((wpart (X / 2 ^ r) i m).set i (dig X i / 2 ^ r)).set i ((((wpart (X / 2 ^ r) i m).set i (dig X i / 2 ^ r)).getD i 0) ||| dig X (i + 1) * 2 ^ (64 - r) % W) = wpart (X / 2 ^ r) (i + 1) m :=
  shr_set2 h (shr_dig X i (by omega))
theorem shr_step1 {X i m r : Nat} (hr : r < 64) (h : i < m) (hm : m = (List.length (words X))) (h0 : 0 < r → m ≤ i + 1) : (wpart (X / 2 ^ r) i m).set i (dig X i / 2 ^ r) = wpart (X / 2 ^ r) (i + 1) m := by
  refine wpart_set h ?_
  rw [← shr_dig X i (Nat.le_of_lt hr)]
  rcases Nat.eq_zero_or_pos r with h1 | h1
  · subst h1
    have : dig X (i + 1) * 2 ^ (64 - 0) % W = 0 := by show _ * W % W = 0; exact Nat.mul_mod_left _ _
    rw [this, Nat.or_zero]
  · rw [dig_zero (n := X) (i := i + 1) (by rw [← hm]; exact h0 h1)]; simp
theorem shr_none {A k : Nat} (h : (List.length (words A)) ≤ k / 64) : [] = words (A / 2 ^ k) := by
  rw [← div_split, Nat.div_eq_of_lt (lt_pow_of h), Nat.zero_div, words_zero]
theorem shr_end {A k m : Nat} (h : m = (List.length (words (A / W ^ (k / 64))))) : words (val (wordsN m (A / W ^ (k / 64) / 2 ^ (k % 64)))) = words (A / 2 ^ k) := by
  rw [words_val_wordsN, div_split]
  exact Nat.lt_of_le_of_lt (Nat.div_le_self _ _) (h ▸ nw_lt _)
theorem topW {A k : Nat} (hA : A ≠ 0) : ¬ (words A ++ List.replicate k 0).getD ((((List.length (words A)) : Nat) : Int) - 1).toNat 0 = 0 := by
  intro h
  have n1 := nw_pos hA
  have e : ((((List.length (words A)) : Nat) : Int) - 1).toNat = (List.length (words A)) - 1 := by omega
  rw [e, List.getD_eq_getElem?_getD, List.getElem?_append_left (by omega), ← List.getD_eq_getElem?_getD, getD_words] at h
  exact dig_top hA h
theorem words_ne {A : Nat} (h : words A ≠ []) : A ≠ 0 := fun e => h (by rw [e, words_zero])
end Go.Nt
