/- Numbers made word by word: sums, differences, products, shifts. No program here. -/
import Derived.Test.YtokhpacdgoebpaaNatM
namespace Go.Nt
/-- the first i words of a number, then noughts, m in all -/
def wpart (N i m : Nat) : List Nat := wordsN i N ++ List.replicate (m - i) 0
theorem wpart_zero (N m : Nat) : List.replicate m 0 = wpart N 0 m := rfl
theorem wpart_len {N i m : Nat} (h : i ≤ m) : (wpart N i m).length = m := by simp [wpart, wordsN_len]; omega
theorem wpart_full (N m : Nat) : wpart N m m = wordsN m N := by simp [wpart]
theorem wpart_set {N i m d : Nat} (h : i < m) (hd : d = dig N i) : (wpart N i m).set i d = wpart N (i + 1) m := by
  subst hd
  unfold wpart
  rw [List.set_append_right _ _ (by rw [wordsN_len]; exact Nat.le_refl _), wordsN_len, Nat.sub_self, wordsN_succ]
  have : m - i = (m - (i + 1)) + 1 := by omega
  rw [this, List.replicate_succ, List.set_cons_zero]
  simp
theorem wpart_getD {N i m j : Nat} : (wpart N i m).getD j 0 = if j < i then dig N j else 0 := by
  unfold wpart
  rw [List.getD_eq_getElem?_getD]
  rcases Nat.lt_or_ge j i with h | h
  · rw [if_pos h, List.getElem?_append_left (by rw [wordsN_len]; exact h)]
    have : (wordsN i N).getD j 0 = dig N j := by
      rw [getD_val (wordsN_ok _ _), val_wordsN, dig, dig]
      obtain ⟨k, rfl⟩ : ∃ k, i = j + 1 + k := ⟨i - (j + 1), by omega⟩
      rw [Nat.add_assoc, Nat.pow_add, Nat.mod_mul_right_div_self, Nat.pow_add, Nat.pow_one, Nat.mod_mul_right_mod]
    rwa [List.getD_eq_getElem?_getD] at this
  · rw [if_neg (by omega), List.getElem?_append_right (by rw [wordsN_len]; exact h)]
    rw [List.getElem?_replicate]; split <;> rfl
theorem words_val_wordsN {N k : Nat} (h : N < W ^ k) : words (val (wordsN k N)) = words N := by rw [val_wordsN, Nat.mod_eq_of_lt h]
theorem pow_pos' (k : Nat) : 0 < W ^ k := Nat.pow_pos (by decide)
theorem pow_le_pow' {a b : Nat} (h : a ≤ b) : W ^ a ≤ W ^ b := Nat.pow_le_pow_right (by decide) h
theorem lt_pow_of {n k : Nat} (h : (List.length (words n)) ≤ k) : n < W ^ k := Nat.lt_of_lt_of_le (nw_lt n) (pow_le_pow' h)

/-- what is carried into the i-th word of a sum -/
def car (p q i : Nat) : Nat := (p % W ^ i + q % W ^ i) / W ^ i
theorem car_zero (p q : Nat) : 0 = car p q 0 := by simp [car, Nat.mod_one]
theorem car_le (p q i : Nat) : car p q i ≤ 1 := by
  have h1 := Nat.mod_lt p (pow_pos' i)
  have h2 := Nat.mod_lt q (pow_pos' i)
  have : car p q i < 2 := by unfold car; rw [Nat.div_lt_iff_lt_mul (pow_pos' i)]; omega
  omega
theorem add_eq (p q i : Nat) : (p + q) / W ^ i = p / W ^ i + q / W ^ i + car p q i := by
  have h1 := Nat.mod_add_div p (W ^ i)
  have h2 := Nat.mod_add_div q (W ^ i)
  have e : p + q = (p % W ^ i + q % W ^ i) + W ^ i * (p / W ^ i + q / W ^ i) := by rw [Nat.mul_add]; omega
  rw [e, Nat.add_mul_div_left _ _ (pow_pos' i)]
  unfold car; omega
theorem div_succ (n i : Nat) : n / W ^ i = W * (n / W ^ (i + 1)) + dig n i := by
  have := div_pow_succ n (i + 1) (by omega); simpa using this
theorem add_dig (p q i : Nat) : (dig p i + dig q i + car p q i) % W = dig (p + q) i := by
  rw [show dig (p + q) i = (p + q) / W ^ i % W from rfl, add_eq]
  unfold dig
  generalize p / W ^ i = a
  generalize q / W ^ i = b
  generalize car p q i = c
  unfold W; omega
theorem add_car (p q i : Nat) : (dig p i + dig q i + car p q i) / W = car p q (i + 1) := by
  have h1 := add_eq p q i
  have h2 := add_eq p q (i + 1)
  have h3 := div_succ p i
  have h4 := div_succ q i
  have h5 := div_succ (p + q) i
  have h6 := add_dig p q i
  generalize car p q i = c at *
  generalize car p q (i + 1) = c' at *
  generalize p / W ^ (i + 1) = a' at *
  generalize q / W ^ (i + 1) = b' at *
  generalize (p + q) / W ^ (i + 1) = s' at *
  generalize p / W ^ i = a at *
  generalize q / W ^ i = b at *
  generalize (p + q) / W ^ i = s at *
  unfold W at *; omega
theorem add_top {p q k : Nat} (hp : p < W ^ k) (hq : q < W ^ k) : car p q k = dig (p + q) k := by
  have h := add_eq p q k
  rw [Nat.div_eq_of_lt hp, Nat.div_eq_of_lt hq] at h
  have := car_le p q k
  unfold dig; rw [h]; simp only [Nat.zero_add]; rw [Nat.mod_eq_of_lt (Nat.lt_of_le_of_lt this (by decide))]
theorem add_lt {p q k : Nat} (hp : p < W ^ k) (hq : q < W ^ k) : p + q < W ^ (k + 1) := by
  rw [Nat.pow_succ]; generalize W ^ k = w at *; unfold W; omega

/-- what is borrowed from the i-th word of a difference -/
def bor (p q i : Nat) : Nat := if p % W ^ i < q % W ^ i then 1 else 0
theorem bor_zero (p q : Nat) : 0 = bor p q 0 := by simp [bor, Nat.mod_one]
theorem bor_le (p q i : Nat) : bor p q i ≤ 1 := by unfold bor; split <;> omega
theorem bor_succ (p q i : Nat) : (if dig p i < dig q i + bor p q i then 1 else 0) = bor p q (i + 1) := by
  have h1 := mod_succ p i
  have h2 := mod_succ q i
  have h3 := Nat.mod_lt p (pow_pos' i)
  have h4 := Nat.mod_lt q (pow_pos' i)
  unfold bor
  rw [h1, h2]
  generalize p % W ^ i = a at *
  generalize q % W ^ i = b at *
  generalize dig p i = x at *
  generalize dig q i = y at *
  generalize W ^ i = w at *
  rcases Nat.lt_trichotomy x y with h | h | h
  · have : w * x + w ≤ w * y := by rw [← Nat.mul_succ]; exact Nat.mul_le_mul_left _ h
    rw [if_pos (by omega), if_pos (by omega)]
  · subst h
    by_cases hab : a < b
    · rw [if_pos hab, if_pos (by omega), if_pos (by omega)]
    · rw [if_neg hab, if_neg (by omega), if_neg (by omega)]
  · have : w * y + w ≤ w * x := by rw [← Nat.mul_succ]; exact Nat.mul_le_mul_left _ h
    rw [if_neg (by split <;> omega), if_neg (by omega)]
theorem sub_eq {p q : Nat} (h : q ≤ p) (i : Nat) : (p - q) / W ^ i + q / W ^ i + bor p q i = p / W ^ i := by
  have h1 := Nat.mod_add_div p (W ^ i)
  have h2 := Nat.mod_add_div q (W ^ i)
  have h3 := Nat.mod_lt p (pow_pos' i)
  have h4 := Nat.mod_lt q (pow_pos' i)
  have h5 := Nat.mod_add_div (p - q) (W ^ i)
  have h6 := Nat.mod_lt (p - q) (pow_pos' i)
  unfold bor
  generalize p % W ^ i = a at *
  generalize q % W ^ i = b at *
  generalize (p - q) % W ^ i = c at *
  generalize p / W ^ i = x at *
  generalize q / W ^ i = y at *
  generalize (p - q) / W ^ i = z at *
  have hw := pow_pos' i
  generalize W ^ i = w at *
  have e : c + w * z + (b + w * y) = a + w * x := by omega
  have e2 : c + b + w * (z + y) = a + w * x := by rw [Nat.mul_add]; omega
  split
  · have hz : w * (z + y) < w * x := by
      apply Classical.byContradiction; intro hc
      have : c + b ≤ a := by omega
      omega
    have h7 : z + y < x := Nat.lt_of_mul_lt_mul_left hz
    have h8 : x ≤ z + y + 1 := by
      apply Classical.byContradiction; intro hc
      have : w * (z + y + 2) ≤ w * x := Nat.mul_le_mul_left _ (by omega)
      rw [Nat.mul_add] at this; omega
    omega
  · have h7 : z + y < x + 1 := by
      apply Nat.lt_of_mul_lt_mul_left (a := w); rw [Nat.mul_add w x]; omega
    have h8 : x < z + y + 1 := by
      apply Classical.byContradiction; intro hc
      have : w * (z + y + 1) ≤ w * x := Nat.mul_le_mul_left _ (by omega)
      rw [Nat.mul_add w (z + y)] at this
      omega
    omega
theorem sub_dig {p q : Nat} (h : q ≤ p) (i : Nat) : (dig p i + W - dig q i - bor p q i) % W = dig (p - q) i := by
  have h1 := sub_eq h i
  have h2 := sub_eq h (i + 1)
  have h3 := div_succ p i
  have h4 := div_succ q i
  have h5 := div_succ (p - q) i
  have h6 := bor_succ p q i
  have h7 := dig_lt (p - q) i
  have h8 := dig_lt p i
  have h9 := dig_lt q i
  have := bor_le p q i
  generalize p / W ^ (i + 1) = a' at *
  generalize q / W ^ (i + 1) = b' at *
  generalize (p - q) / W ^ (i + 1) = s' at *
  generalize p / W ^ i = a at *
  generalize q / W ^ i = b at *
  generalize (p - q) / W ^ i = s at *
  generalize bor p q i = e at *
  generalize bor p q (i + 1) = e' at *
  unfold W at *
  split at h6 <;> omega
theorem fz_wpart {N i m d k : Nat} (hk : i + 1 = m) (hi : k = i) (hd : d = dig N i) : (((wpart N i m).set k d).drop 0).take m = wordsN m N := by
  subst hi
  rw [wpart_set (by omega) hd, hk, wpart_full, List.drop_zero]
  exact List.take_of_length_le (by rw [wordsN_len]; exact Nat.le_refl _)
theorem fz_wpart' {N i m : Nat} (hk : i = m) : ((wpart N i m).drop 0).take m = wordsN m N := by
  subst hk
  rw [wpart_full, List.drop_zero]
  exact List.take_of_length_le (by rw [wordsN_len]; exact Nat.le_refl _)
theorem cmpN_neg {m n : Nat} : cmpN m n < 0 ↔ m < n := by unfold cmpN; split <;> (try split) <;> omega
theorem sub_lt' {p q k : Nat} (h : p < W ^ k) : p - q < W ^ k := by omega

/-- words of one number below, of another above -/
def mix (k N' N m : Nat) : List Nat := wordsN k N' ++ wordsN (m - k) (N / W ^ k)
theorem mix_len {k N' N m : Nat} (h : k ≤ m) : (mix k N' N m).length = m := by simp [mix, wordsN_len]; omega
theorem wordsN_getD : ∀ {k N j : Nat}, j < k → (wordsN k N).getD j 0 = dig N j
  | k + 1, N, 0, _ => by simp [wordsN, dig]
  | k + 1, N, j + 1, h => by
    rw [wordsN, List.getD_cons_succ, wordsN_getD (by omega), dig, dig, Nat.div_div_eq_div_mul, Nat.pow_succ, Nat.mul_comm W]
theorem mix_getD {k N' N m j : Nat} (h : k ≤ j) (hj : j < m) : (mix k N' N m).getD j 0 = dig N j := by
  unfold mix
  rw [List.getD_eq_getElem?_getD, List.getElem?_append_right (by rw [wordsN_len]; exact h), wordsN_len, ← List.getD_eq_getElem?_getD, wordsN_getD (by omega), dig, dig,
    Nat.div_div_eq_div_mul, ← Nat.pow_add]
  congr 3; omega
theorem mix_set {k N' N m d j : Nat} (h : k < m) (hj : j = k) (hd : d = dig N' k) : (mix k N' N m).set j d = mix (k + 1) N' N m := by
  subst hd hj
  unfold mix
  rw [List.set_append_right _ _ (by rw [wordsN_len]; exact Nat.le_refl _), wordsN_len, Nat.sub_self, wordsN_succ]
  have : m - j = (m - (j + 1)) + 1 := by omega
  rw [this, wordsN, List.set_cons_zero, Nat.div_div_eq_div_mul, ← Nat.pow_succ]
  simp
theorem wordsN_mod : ∀ {k N N' : Nat}, N % W ^ k = N' % W ^ k → wordsN k N = wordsN k N'
  | k, N, N', h => eq_wordsN (wordsN_ok _ _) (wordsN_len _ _) (by rw [val_wordsN, h])
theorem mix_wordsN {k N m : Nat} (h : k ≤ m) : mix k N N m = wordsN m N := by
  refine eq_wordsN ?_ (mix_len h) ?_
  · exact ok_append (wordsN_ok _ _) (wordsN_ok _ _)
  · unfold mix
    rw [val_append, val_wordsN, val_wordsN, wordsN_len]
    obtain ⟨j, rfl⟩ : ∃ j, m = k + j := ⟨m - k, by omega⟩
    rw [Nat.add_sub_cancel_left, Nat.pow_add, Nat.mod_mul]
theorem mix_start {k N' N m : Nat} (h : k ≤ m) (he : N' % W ^ k = N % W ^ k) : wordsN m N = mix k N' N m := by
  rw [← mix_wordsN h]; unfold mix; rw [wordsN_mod he]
theorem mix_end {k N' N m : Nat} (h : k ≤ m) (he : N / W ^ k = N' / W ^ k) : mix k N' N m = wordsN m N' := by
  rw [← mix_wordsN h]; unfold mix; rw [he]

/-- what is carried into the i-th word of n + A x -/
def mcar (n A x i : Nat) : Nat := (n % W ^ i + A % W ^ i * x) / W ^ i
theorem mcar_zero (n A x : Nat) : 0 = mcar n A x 0 := by simp [mcar, Nat.mod_one]
theorem mcar_le (n A x i : Nat) : mcar n A x i ≤ x := by
  have h1 := Nat.mod_lt n (pow_pos' i)
  have h2 : A % W ^ i + 1 ≤ W ^ i := Nat.mod_lt A (pow_pos' i)
  have h3 := Nat.mul_le_mul_right x h2
  rw [Nat.succ_mul] at h3
  have : mcar n A x i < x + 1 := by unfold mcar; rw [Nat.div_lt_iff_lt_mul (pow_pos' i), Nat.add_mul, Nat.one_mul, Nat.mul_comm x]; omega
  omega
theorem mcar_lt (n A x : Nat) {i : Nat} (h : x < 18446744073709551616) : mcar n A x i < 18446744073709551616 := Nat.lt_of_le_of_lt (mcar_le n A x i) h
theorem mul_sum (n A x i : Nat) : (n + A * x) / W ^ i = n / W ^ i + A / W ^ i * x + mcar n A x i := by
  have h1 := Nat.mod_add_div n (W ^ i)
  have h2 := Nat.mod_add_div A (W ^ i)
  have e : n + A * x = (n % W ^ i + A % W ^ i * x) + W ^ i * (n / W ^ i + A / W ^ i * x) := by
    have : A * x = A % W ^ i * x + W ^ i * (A / W ^ i * x) := by
      rw [← Nat.mul_assoc, ← Nat.add_mul, h2]
    rw [Nat.mul_add, this]; omega
  rw [e, Nat.add_mul_div_left _ _ (pow_pos' i)]
  unfold mcar; omega
theorem mul_step_eq (n A x i : Nat) : dig n i + dig A i * x + mcar n A x i = dig (n + A * x) i + W * mcar n A x (i + 1) := by
  have h1 := mul_sum n A x i
  have h2 := mul_sum n A x (i + 1)
  have h3 := div_succ n i
  have h4 := div_succ A i
  have h5 := div_succ (n + A * x) i
  rw [h4, Nat.add_mul, Nat.mul_assoc] at h1
  generalize A / W ^ (i + 1) * x = a' at *
  generalize dig A i * x = e at *
  generalize (n + A * x) / W ^ (i + 1) = s' at *
  generalize (n + A * x) / W ^ i = s at *
  generalize n / W ^ (i + 1) = b' at *
  generalize n / W ^ i = b at *
  generalize dig (n + A * x) i = t at *
  generalize mcar n A x (i + 1) = u at *
  generalize mcar n A x i = v at *
  subst h2 h3
  rw [h1, Nat.mul_add, Nat.mul_add] at h5
  omega
theorem dig_add_pow (N n o i : Nat) (h : N / W ^ o = n) : dig N (o + i) = dig n i := by
  subst h; rw [dig, dig, Nat.div_div_eq_div_mul, ← Nat.pow_add]
theorem shifted (N o D : Nat) : (N + W ^ o * D) / W ^ o = N / W ^ o + D := Nat.add_mul_div_left _ _ (pow_pos' o)
theorem shifted_mod (N o D : Nat) : (N + W ^ o * D) % W ^ o = N % W ^ o := Nat.add_mul_mod_self_left _ _ _
theorem mul_top {n A x k : Nat} (hn : n < W ^ k) (hA : A < W ^ k) : (n + A * x) / W ^ k = mcar n A x k := by
  rw [mul_sum, Nat.div_eq_of_lt hn, Nat.div_eq_of_lt hA]; omega
/-- one word of a row: y x + o + c -/
theorem row_word {x y o c t u : Nat} (hx : x < W) (hy : y < W) (ho : o < W) (hc : c < W) (ht : t < W) (he : o + y * x + c = t + W * u) :
    ((x * y % 18446744073709551616 + o) % 18446744073709551616 + c) % 18446744073709551616 = t ∧
      x * y / 18446744073709551616 + (x * y % 18446744073709551616 + o) / 18446744073709551616 + ((x * y % 18446744073709551616 + o) % 18446744073709551616 + c) / 18446744073709551616 = u ∧ u < 18446744073709551616 := by
  have hxy : x * y ≤ 18446744073709551615 * 18446744073709551615 := Nat.mul_le_mul (by unfold W at hx; omega) (by unfold W at hy; omega)
  rw [Nat.mul_comm y x] at he
  generalize x * y = p at *
  unfold W at *
  omega
theorem mod_pow_succ_mul (A B i : Nat) : A * (B % W ^ (i + 1)) = A * (B % W ^ i) + W ^ i * (A * dig B i) := by
  rw [mod_succ, Nat.mul_add]; congr 1; rw [Nat.mul_left_comm]
theorem mul_lt_pow {A B i k : Nat} (hA : A < W ^ k) : A * (B % W ^ i) < W ^ (i + k) := by
  have hB := Nat.mod_lt B (pow_pos' i)
  rw [Nat.add_comm, Nat.pow_add]
  exact Nat.mul_lt_mul'' hA hB
theorem rowGet {N' N m o i : Nat} (h : o + i < m) : (mix (o + i) N' N m).getD (o + i) 0 = dig (N / W ^ o) i := by
  rw [mix_getD (Nat.le_refl _) h, dig_add_pow _ _ _ _ rfl]
theorem rowPut {N A x m o i d : Nat} (h : o + i < m) (hd : d = dig (N / W ^ o + A * x) i) : (mix (o + i) (N + W ^ o * (A * x)) N m).set (o + i) d = mix (o + (i + 1)) (N + W ^ o * (A * x)) N m :=
  mix_set h rfl (by rw [hd, dig_add_pow _ _ _ _ (shifted _ _ _)])
theorem div_pow_add (N o k : Nat) : N / W ^ (o + k) = N / W ^ o / W ^ k := by rw [Nat.pow_add, Nat.div_div_eq_div_mul]
theorem rowEnd {N A x m o i k : Nat} (hk : k = i) (hm : o + i + 1 ≤ m) (hn : N / W ^ o < W ^ i) (hA : A < W ^ i) (hx : x < W) :
    (mix (o + i) (N + W ^ o * (A * x)) N m).set (o + k) (mcar (N / W ^ o) A x i) = wordsN m (N + W ^ o * (A * x)) := by
  subst hk
  have h1 := mul_top (x := x) hn hA
  have h2 := mcar_le (N / W ^ o) A x k
  rw [rowPut (by omega) (by rw [dig, h1, Nat.mod_eq_of_lt (by omega)])]
  refine mix_end (by omega) ?_
  have e1 : N / W ^ (o + (k + 1)) = 0 := by rw [div_pow_add]; exact Nat.div_eq_of_lt (Nat.lt_of_lt_of_le hn (pow_le_pow' (Nat.le_succ k)))
  have e2 : (N + W ^ o * (A * x)) / W ^ (o + (k + 1)) = 0 := by
    rw [div_pow_add, shifted, Nat.pow_succ, ← Nat.div_div_eq_div_mul, h1]; exact Nat.div_eq_of_lt (by omega)
  rw [e1, e2]
theorem mulStart (A m : Nat) : List.replicate m 0 = wordsN m (A * (val [] % W ^ 0)) := by
  refine eq_wordsN (fun x hx => ?_) (by simp) ?_
  · rw [List.mem_replicate] at hx; rw [hx.2]; decide
  · rw [val_replicate]; simp [Nat.mod_one]
theorem mulStart' (A B m : Nat) : List.replicate m 0 = wordsN m (A * (B % W ^ 0)) := by
  rw [mulStart A m]; simp [Nat.mod_one]
theorem mulDiv {A B i k : Nat} (hA : A < W ^ k) : A * (B % W ^ i) / W ^ i < W ^ k := by
  rw [Nat.div_lt_iff_lt_mul (pow_pos' i), ← Nat.pow_add, Nat.add_comm]; exact mul_lt_pow hA
theorem mulEnd {A B m : Nat} (h : (List.length (words A)) + (List.length (words B)) + 1 = m) : words (val (wordsN m (A * (B % W ^ (List.length (words B)))))) = words (A * B) := by
  rw [Nat.mod_eq_of_lt (nw_lt B), words_val_wordsN]
  have h1 := nw_lt A
  have h2 := nw_lt B
  have h3 : A * B < W ^ (List.length (words A)) * W ^ (List.length (words B)) := Nat.mul_lt_mul'' h1 h2
  rw [← Nat.pow_add] at h3
  exact Nat.lt_of_lt_of_le h3 (pow_le_pow' (by omega))
end Go.Nt
