/- What the reference for naturals computes, digit by digit. No program here. -/
import Derived.Test.YtokhpacdgoebpaaDigM
namespace Go.Nt
theorem one_digs : digs 1 = [1] := by rw [digs, dif_neg (by decide)]; simp [digs, D]
theorem D4 : W = D ^ 4 := by decide
theorem dval_lt4 : ∀ {xs : List Nat}, (∀ x ∈ xs, x ≤ 1099511627776) → dval xs + D ^ 4 ≤ D ^ (xs.length + 4)
  | [], _ => by simp [dval]
  | x :: xs, h => by
    have h1 := dval_lt4 (xs := xs) fun y hy => h y (by simp [hy])
    have h2 := h x (by simp)
    have e : D ^ ((x :: xs).length + 4) = D * D ^ (xs.length + 4) := by rw [List.length_cons, show xs.length + 1 + 4 = (xs.length + 4) + 1 by omega, Nat.pow_succ, Nat.mul_comm]
    rw [dval, e]
    have h3 : D * (dval xs + D ^ 4) ≤ D * D ^ (xs.length + 4) := Nat.mul_le_mul_left _ h1
    rw [Nat.mul_add] at h3
    have h4 : D * D ^ 4 = 1208925819614629174706176 := by decide
    have h5 : D ^ 4 = 18446744073709551616 := by decide
    omega
theorem drop_getD {xs : List Nat} {i : Nat} : dval (xs.drop i) = xs.getD i 0 + D * dval (xs.drop (i + 1)) := by
  rcases Nat.lt_or_ge i xs.length with h | h
  · rw [List.drop_eq_getElem_cons h, dval]; simp [List.getD, h]
  · rw [List.drop_eq_nil_of_le h, List.drop_eq_nil_of_le (by omega)]; simp [List.getD, h, dval]
/-- carrying: what is carried and what still stands is the number's upper part -/
theorem carry_step {ds : List Nat} {i c : Nat} (h : c + dval (ds.drop i) = dval ds / D ^ i) :
    (c + ds.getD i 0) % 65536 = dg (dval ds) i ∧ (c + ds.getD i 0) / 65536 + dval (ds.drop (i + 1)) = dval ds / D ^ (i + 1) := by
  rw [drop_getD, ← Nat.add_assoc] at h
  have e : dval ds / D ^ (i + 1) = dval ds / D ^ i / D := by rw [Nat.pow_succ, Nat.div_div_eq_div_mul]
  unfold dg
  rw [e, ← h]
  unfold D
  constructor <;> omega
theorem carry_zero {ds : List Nat} {i c : Nat} (h : c + dval (ds.drop i) = dval ds / D ^ i) (hd : ∀ x ∈ ds, x ≤ 1099511627776) (hc : ds.length + 4 ≤ i) : c = 0 := by
  have h1 := dval_lt4 hd
  have h2 : dval ds < D ^ i := by
    have : D ^ (ds.length + 4) ≤ D ^ i := Nat.pow_le_pow_right (by decide) hc
    have : 0 < D ^ 4 := by decide
    omega
  rw [Nat.div_eq_of_lt h2] at h
  omega
theorem carry_mu {ds : List Nat} {i c : Nat} (h : c + dval (ds.drop i) = dval ds / D ^ i) (hc : i < ds.length ∨ 0 < c) : dval ds / D ^ (i + 1) + (ds.length - (i + 1)) < dval ds / D ^ i + (ds.length - i) := by
  have e : dval ds / D ^ (i + 1) = dval ds / D ^ i / 65536 := by rw [Nat.pow_succ, Nat.div_div_eq_div_mul]
  rw [e]
  generalize dval ds / D ^ i = m at *
  rcases hc with hc | hc <;> omega
theorem carry_end {ds : List Nat} {i : Nat} (h : 0 + dval (ds.drop i) = dval ds / D ^ i) (hc : ds.length ≤ i) : digs (dval (digsN i (dval ds))) = digs (dval ds) := by
  rw [List.drop_eq_nil_of_le hc, dval, Nat.add_zero] at h
  apply d_words_val_wordsN
  have := Nat.div_add_mod (dval ds) (D ^ i)
  rw [← h, Nat.mul_zero, Nat.zero_add] at this
  rw [← this]; exact Nat.mod_lt _ (Nat.pow_pos (by decide))
theorem getD_le {xs : List Nat} {i b : Nat} (h : ∀ x ∈ xs, x ≤ b) : xs.getD i 0 ≤ b := by
  rcases Nat.lt_or_ge i xs.length with h1 | h1
  · rw [List.getD, List.getElem?_eq_getElem h1]; exact h _ (List.getElem_mem h1)
  · rw [List.getD, List.getElem?_eq_none h1]; exact Nat.zero_le _
/-- a word's digits -/
theorem dig_dg (n j k : Nat) (hk : k < 4) : dig n j / D ^ k % 65536 = dg n (4 * j + k) := by
  unfold dig dg
  rw [D4, ← Nat.pow_mul, Nat.pow_add, ← Nat.div_div_eq_div_mul]
  generalize n / D ^ (4 * j) = m
  unfold D
  match k, hk with
  | 0, _ => omega
  | 1, _ => omega
  | 2, _ => omega
  | 3, _ => omega
theorem from_end {xs : List Nat} {i : Nat} (h : Ok xs) (hi : i = xs.length) : digs (dval (digsN (4 * i) (val xs))) = digs (val xs) := by
  subst hi
  apply d_words_val_wordsN
  rw [Nat.pow_mul, ← D4]; exact val_lt h
theorem to_step {n j t : Nat} (ht : t < 4) : dig n j / D ^ (4 - t) * 65536 + dg n (4 * j + (3 - t)) = dig n j / D ^ (4 - (t + 1)) := by
  rw [← dig_dg n j (3 - t) (by omega), show 4 - (t + 1) = 3 - t by omega, show 4 - t = 3 - t + 1 by omega, Nat.pow_succ, ← Nat.div_div_eq_div_mul]
  unfold D
  omega
theorem to_full {n j t : Nat} (h : 4 ≤ t) (h2 : t ≤ 4) : dig n j / D ^ (4 - t) = dig n j := by
  obtain rfl : t = 4 := by omega
  exact Nat.div_one _
theorem dig_div_lt (n j k : Nat) : dig n j / D ^ k < 18446744073709551616 := Nat.lt_of_le_of_lt (Nat.div_le_self _ _) (dig_lt n j)
theorem to_start (n j : Nat) : 0 = dig n j / D ^ (4 - 0) := by
  rw [Nat.div_eq_of_lt]; exact Nat.lt_of_lt_of_le (dig_lt n j) (by decide)
theorem nd_nw (n : Nat) : n < W ^ ((List.length (digs n) + 3) / 4) := by
  rw [D4, ← Nat.pow_mul]
  exact Nat.lt_of_lt_of_le (d_nw_lt n) (Nat.pow_le_pow_right (by decide) (by omega))
theorem to_end {n j k : Nat} (hj : List.length (digs n) ≤ 4 * j) (hk : k ≤ j) (hz : ∀ i, k ≤ i → (wordsN j n).getD i 0 = 0) (ht : k = 0 ∨ (wordsN j n).getD (k - 1) 0 ≠ 0) : (wordsN j n).take k = words n := by
  have hn : n < W ^ j := by
    rw [D4, ← Nat.pow_mul]; exact Nat.lt_of_lt_of_le (d_nw_lt n) (Nat.pow_le_pow_right (by decide) hj)
  rw [words_of_take (wordsN_ok j n) (by rw [wordsN_len]; exact hk) hz ht, val_wordsN, Nat.mod_eq_of_lt hn]
theorem getD_take {xs : List Nat} {i k : Nat} (h : i < k) : (xs.take k).getD i 0 = xs.getD i 0 := by
  rw [List.getD_eq_getElem?_getD, List.getElem?_take_of_lt h, ← List.getD_eq_getElem?_getD]
theorem take_down {xs : List Nat} {k m : Nat} (h : m ≤ k) : (xs.take k).take m = xs.take m := by rw [List.take_take, Nat.min_eq_left h]
/-- sums, digit by digit, uncarried -/
def addL (m n i : Nat) : List Nat := (List.range i).map fun k => dg m k + dg n k
theorem addL_len (m n i : Nat) : (addL m n i).length = i := by simp [addL]
theorem addL_succ (m n i : Nat) : addL m n (i + 1) = addL m n i ++ [dg m i + dg n i] := by simp [addL, List.range_succ]
theorem dval_addL (m n : Nat) : ∀ i, dval (addL m n i) = m % D ^ i + n % D ^ i
  | 0 => by simp [addL, dval, Nat.mod_one]
  | i + 1 => by
    rw [addL_succ, d_val_append, dval_addL m n i, addL_len, d_mod_succ, d_mod_succ]
    simp only [dval, Nat.mul_zero, Nat.add_zero, Nat.mul_add]; omega
theorem addL_le (m n i : Nat) : ∀ x ∈ addL m n i, x ≤ 1099511627776 := by
  intro x hx
  obtain ⟨k, _, rfl⟩ := List.mem_map.1 hx
  have := d_dig_lt m k
  have := d_dig_lt n k
  unfold D at *; omega
theorem addL_end {m n i : Nat} (hm : List.length (digs m) ≤ i) (hn : List.length (digs n) ≤ i) : digs (dval (addL m n i)) = digs (m + n) := by
  rw [dval_addL, Nat.mod_eq_of_lt (d_lt_pow_of hm), Nat.mod_eq_of_lt (d_lt_pow_of hn)]
theorem getD_digs0 {n i : Nat} (h : List.length (digs n) ≤ i) : (digs n).getD i 0 = 0 := by rw [d_getD_words, d_dig_zero h]
theorem sub_end {m n i : Nat} (h : List.length (digs m) ≤ i) : digs (dval (digsN i (m - n))) = digs (m - n) :=
  d_words_val_wordsN (Nat.lt_of_le_of_lt (Nat.sub_le _ _) (d_lt_pow_of h))
theorem dbor_eq (m n i : Nat) : dbor m n (i + 1) = if dg m i < dg n i + dbor m n i then 1 else 0 := (d_bor_succ m n i).symm
/-! ### bits -/
theorem D_two : D = 2 ^ 16 := by decide
theorem bit_dg (n i : Nat) : dg n (i / 16) / 2 ^ (i % 16) % 2 = n / 2 ^ i % 2 := by
  unfold dg
  have e : 2 ^ i = D ^ (i / 16) * 2 ^ (i % 16) := by rw [D_two, ← Nat.pow_mul, ← Nat.pow_add]; congr 1; omega
  rw [e, ← Nat.div_div_eq_div_mul]
  generalize n / D ^ (i / 16) = m
  have h16 : i % 16 < 16 := Nat.mod_lt _ (by decide)
  generalize i % 16 = r at *
  unfold D
  have h2 : 65536 = 2 ^ r * 2 * 2 ^ (15 - r) := by
    rw [← Nat.pow_succ, ← Nat.pow_add, show r + 1 + (15 - r) = 16 by omega]
  rw [h2, ← Nat.mod_mul_right_div_self, ← Nat.mod_mul_right_div_self, Nat.mod_mul_right_mod]
/-- a bit more -/
theorem bit_step (a s : Nat) : a / 2 ^ s = 2 * (a / 2 ^ (s + 1)) + a / 2 ^ s % 2 := by
  rw [Nat.pow_succ, ← Nat.div_div_eq_div_mul]; omega
theorem dm_step {A b t : Nat} (hb : 0 < b) (ht : t ≤ 1) : (b ≤ 2 * (A % b) + t → (2 * A + t) / b = 2 * (A / b) + 1 ∧ (2 * A + t) % b = 2 * (A % b) + t - b) ∧
    (2 * (A % b) + t < b → (2 * A + t) / b = 2 * (A / b) ∧ (2 * A + t) % b = 2 * (A % b) + t) := by
  have e := Nat.div_add_mod A b
  have h := Nat.mod_lt A hb
  generalize A / b = q at *
  generalize A % b = r at *
  subst e
  constructor
  · intro h1
    have e2 : 2 * (b * q + r) + t = (2 * r + t - b) + b * (2 * q + 1) := by rw [Nat.mul_add b, Nat.mul_left_comm b]; omega
    rw [e2, Nat.add_mul_div_left _ _ hb, Nat.add_mul_mod_self_left, Nat.div_eq_of_lt (by omega), Nat.mod_eq_of_lt (by omega)]
    omega
  · intro h1
    have e2 : 2 * (b * q + r) + t = (2 * r + t) + b * (2 * q) := by rw [Nat.mul_left_comm b]; omega
    rw [e2, Nat.add_mul_div_left _ _ hb, Nat.add_mul_mod_self_left, Nat.div_eq_of_lt h1, Nat.mod_eq_of_lt h1]
    omega
theorem nd_double {x y : Nat} (h : x ≤ 2 * y + 1) : List.length (digs x) ≤ List.length (digs y) + 1 := by
  apply d_nw_le
  have := d_nw_lt y
  rw [Nat.pow_succ]
  have : 2 * D ^ (List.length (digs y)) ≤ D ^ (List.length (digs y)) * D := by rw [Nat.mul_comm]; exact Nat.mul_le_mul_left _ (by decide)
  omega
theorem dm_top (a : Nat) : a / 2 ^ (16 * List.length (digs a)) = 0 := by
  rw [Nat.div_eq_of_lt]
  rw [Nat.pow_mul, ← D_two]; exact d_nw_lt a
end Go.Nt
