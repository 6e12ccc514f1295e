/- Plain numbers in words of 64 bits. No program here. -/
namespace Go.Nt
abbrev W : Nat := 18446744073709551616
/-- the number of some words, the least significant first -/
def val : List Nat → Nat
  | [] => 0
  | x :: xs => x + W * val xs
/-- so many words of a number -/
def wordsN : Nat → Nat → List Nat
  | 0, _ => []
  | k + 1, n => n % W :: wordsN k (n / W)
/-- a number's words, without needless noughts -/
def words (n : Nat) : List Nat := if h : n = 0 then [] else n % W :: words (n / W)
termination_by n
decreasing_by exact Nat.div_lt_self (Nat.pos_of_ne_zero h) (by decide)
def Ok (xs : List Nat) : Prop := ∀ x ∈ xs, x < W

theorem words_zero : words 0 = [] := by unfold words; simp
theorem words_pos {n : Nat} (h : n ≠ 0) : words n = n % W :: words (n / W) := by rw [words]; simp [h]
theorem nw_zero : (List.length (words 0)) = 0 := by rw [words_zero]; rfl
theorem nw_pos {n : Nat} (h : n ≠ 0) : (List.length (words n)) = (List.length (words (n / W))) + 1 := by rw [words_pos h]; rfl
theorem val_words (n : Nat) : val (words n) = n := by
  induction n using Nat.strongRecOn with
  | _ n ih =>
    by_cases h : n = 0
    · subst h; rw [words_zero]; rfl
    · rw [words_pos h, val, ih _ (Nat.div_lt_self (Nat.pos_of_ne_zero h) (by decide))]
      have := Nat.mod_add_div n W; omega
theorem words_ok (n : Nat) : Ok (words n) := by
  induction n using Nat.strongRecOn with
  | _ n ih =>
    by_cases h : n = 0
    · subst h; rw [words_zero]; intro x hx; simp at hx
    · rw [words_pos h]; intro x hx
      rcases List.mem_cons.1 hx with rfl | hx
      · exact Nat.mod_lt _ (by decide)
      · exact ih _ (Nat.div_lt_self (Nat.pos_of_ne_zero h) (by decide)) x hx
theorem wordsN_len : ∀ (k n : Nat), (wordsN k n).length = k
  | 0, _ => rfl
  | k + 1, n => by simp [wordsN, wordsN_len k]
theorem wordsN_ok : ∀ (k n : Nat), Ok (wordsN k n)
  | 0, _ => fun x hx => by simp [wordsN] at hx
  | k + 1, n => fun x hx => by
    rcases List.mem_cons.1 hx with rfl | hx
    · exact Nat.mod_lt _ (by decide)
    · exact wordsN_ok k _ x hx
theorem val_wordsN : ∀ (k n : Nat), val (wordsN k n) = n % W ^ k
  | 0, n => by simp [wordsN, val, Nat.mod_one]
  | k + 1, n => by
    rw [wordsN, val, val_wordsN k, Nat.pow_succ, Nat.mul_comm (W ^ k) W, Nat.mod_mul]
theorem val_lt {xs : List Nat} (h : Ok xs) : val xs < W ^ xs.length := by
  induction xs with
  | nil => simp [val]
  | cons x xs ih =>
    have h1 := h x (by simp)
    have h2 := ih (fun y hy => h y (by simp [hy]))
    rw [val, List.length_cons, Nat.pow_succ]
    have : W * val xs + W ≤ W * W ^ xs.length := by rw [← Nat.mul_succ]; exact Nat.mul_le_mul_left _ h2
    rw [Nat.mul_comm (W ^ xs.length)]; omega
theorem val_append (xs ys : List Nat) : val (xs ++ ys) = val xs + W ^ xs.length * val ys := by
  induction xs with
  | nil => simp [val]
  | cons x xs ih => rw [List.cons_append, val, ih, val, List.length_cons, Nat.pow_succ]; grind
theorem ok_append {xs ys : List Nat} (h : Ok xs) (k : Ok ys) : Ok (xs ++ ys) := fun x hx => by
  rcases List.mem_append.1 hx with h1 | h1
  · exact h x h1
  · exact k x h1
theorem val_inj : ∀ {xs ys : List Nat}, Ok xs → Ok ys → xs.length = ys.length → val xs = val ys → xs = ys
  | [], [], _, _, _, _ => rfl
  | x :: xs, y :: ys, h1, h2, hl, hv => by
    have hx := h1 x (by simp)
    have hy := h2 y (by simp)
    simp only [val] at hv
    have e : x = y := by
      have := congrArg (· % W) hv
      simp only [Nat.add_mul_mod_self_left] at this
      rwa [Nat.mod_eq_of_lt hx, Nat.mod_eq_of_lt hy] at this
    subst e
    have e2 : val xs = val ys := Nat.eq_of_mul_eq_mul_left (by decide : 0 < W) (by omega)
    rw [val_inj (fun z hz => h1 z (by simp [hz])) (fun z hz => h2 z (by simp [hz])) (by simpa using hl) e2]
theorem eq_wordsN {xs : List Nat} {k n : Nat} (h : Ok xs) (hl : xs.length = k) (hv : val xs = n % W ^ k) : xs = wordsN k n :=
  val_inj h (wordsN_ok _ _) (by rw [hl, wordsN_len]) (by rw [hv, val_wordsN])
theorem nw_lt (n : Nat) : n < W ^ (List.length (words n)) := by have := val_lt (words_ok n); rwa [val_words] at this
theorem nw_le {n k : Nat} (h : n < W ^ k) : (List.length (words n)) ≤ k := by
  induction k generalizing n with
  | zero => have : n = 0 := by simpa using h
            subst this; rw [nw_zero]; exact Nat.le_refl _
  | succ k ih =>
    by_cases h0 : n = 0
    · subst h0; rw [nw_zero]; omega
    · rw [nw_pos h0]
      have : n / W < W ^ k := by rw [Nat.div_lt_iff_lt_mul (by decide)]; rwa [Nat.pow_succ] at h
      have := ih this; omega
theorem nw_mono {m n : Nat} (h : m ≤ n) : (List.length (words m)) ≤ (List.length (words n)) := nw_le (Nat.lt_of_le_of_lt h (nw_lt n))
theorem le_of_nw {n : Nat} (h : n ≠ 0) : W ^ ((List.length (words n)) - 1) ≤ n := by
  apply Classical.byContradiction; intro hc
  have := nw_le (Nat.lt_of_not_le hc)
  have := nw_pos h; omega
theorem nw_val {xs : List Nat} (h : Ok xs) : (List.length (words (val xs))) ≤ xs.length := nw_le (val_lt h)
/-- the i-th word -/
def dig (n i : Nat) : Nat := n / W ^ i % W
theorem dig_lt (n i : Nat) : dig n i < W := Nat.mod_lt _ (by decide)
theorem getD_words (n i : Nat) : (words n).getD i 0 = dig n i := by
  induction i generalizing n with
  | zero =>
    by_cases h : n = 0
    · subst h; rw [words_zero]; simp [dig]
    · rw [words_pos h]; simp [dig]
  | succ i ih =>
    by_cases h : n = 0
    · subst h; rw [words_zero]; simp [dig]
    · rw [words_pos h, List.getD_cons_succ, ih, dig, dig, Nat.div_div_eq_div_mul, Nat.pow_succ, Nat.mul_comm W]
theorem getD_val {xs : List Nat} (h : Ok xs) (i : Nat) : xs.getD i 0 = dig (val xs) i := by
  induction xs generalizing i with
  | nil => simp [dig, val]
  | cons x xs ih =>
    have hx := h x (by simp)
    cases i with
    | zero => simp [dig, val, Nat.mod_eq_of_lt hx]
    | succ i =>
      rw [List.getD_cons_succ, ih (fun y hy => h y (by simp [hy])), dig, dig, val, Nat.pow_succ, Nat.mul_comm (W ^ i), ← Nat.div_div_eq_div_mul]
      rw [Nat.add_mul_div_left _ _ (by decide), Nat.div_eq_of_lt hx, Nat.zero_add]
theorem wordsN_succ (k n : Nat) : wordsN (k + 1) n = wordsN k n ++ [dig n k] := by
  induction k generalizing n with
  | zero => simp [wordsN, dig]
  | succ k ih =>
    rw [wordsN, ih, wordsN, List.cons_append, dig, dig, Nat.div_div_eq_div_mul, Nat.pow_succ, Nat.mul_comm W]
theorem mod_succ (n k : Nat) : n % W ^ (k + 1) = n % W ^ k + W ^ k * dig n k := by
  rw [Nat.pow_succ, Nat.mod_mul, dig]
theorem words_wordsN (n : Nat) : words n = wordsN ((List.length (words n))) n := eq_wordsN (words_ok n) rfl (by rw [val_words, Nat.mod_eq_of_lt (nw_lt n)])
theorem dig_top {n : Nat} (h : n ≠ 0) : dig n ((List.length (words n)) - 1) ≠ 0 := by
  intro h0
  have h1 := le_of_nw h
  have h2 := nw_lt n
  have e : (List.length (words n)) - 1 + 1 = (List.length (words n)) := by have := nw_pos h; omega
  have h3 : n / W ^ ((List.length (words n)) - 1) < W := by rw [Nat.div_lt_iff_lt_mul (Nat.pow_pos (by decide)), Nat.mul_comm, ← Nat.pow_succ]; rwa [show ((List.length (words n)) - 1).succ = (List.length (words n)) from e]
  rw [dig, Nat.mod_eq_of_lt h3] at h0
  have := (Nat.div_eq_zero_iff.1 h0).resolve_left (Nat.ne_of_gt (Nat.pow_pos (by decide)))
  omega
theorem dig_zero {n i : Nat} (h : (List.length (words n)) ≤ i) : dig n i = 0 := by
  rw [dig, Nat.div_eq_of_lt (Nat.lt_of_lt_of_le (nw_lt n) (Nat.pow_le_pow_right (by decide) h))]; rfl
/-- words whose last one is no nought, or none -/
theorem words_of_take {xs : List Nat} {k : Nat} (h : Ok xs) (hk : k ≤ xs.length) (h0 : ∀ i, k ≤ i → xs.getD i 0 = 0) (ht : k = 0 ∨ xs.getD (k - 1) 0 ≠ 0) : xs.take k = words (val xs) := by
  have hv : val xs < W ^ k := by
    clear ht
    induction xs generalizing k with
    | nil => simp [val]; exact Nat.pow_pos (by decide)
    | cons x xs ih =>
      cases k with
      | zero =>
        have hx := h0 0 (Nat.le_refl _)
        simp at hx
        have := ih (fun y hy => h y (by simp [hy])) (Nat.zero_le _) (fun i _ => by simpa using h0 (i + 1) (by omega))
        simp at this
        simp [val, hx, this]
      | succ k =>
        have := ih (fun y hy => h y (by simp [hy])) (by simpa using hk) (fun i hi => by simpa using h0 (i + 1) (by omega))
        have hx := h x (by simp)
        rw [val, Nat.pow_succ, Nat.mul_comm (W ^ k)]
        have h3 : W * val xs + W ≤ W * W ^ k := by rw [← Nat.mul_succ]; exact Nat.mul_le_mul_left _ this
        omega
  have hn : (List.length (words (val xs))) = k := by
    have h1 := nw_le hv
    rcases ht with rfl | ht
    · omega
    · rcases Nat.lt_or_ge ((List.length (words (val xs)))) k with h2 | h2
      · exfalso; apply ht; rw [getD_val h]; exact dig_zero (by omega)
      · omega
  have hok : Ok (xs.take k) := fun x hx => h x (List.mem_of_mem_take hx)
  have htv : val (xs.take k) = val xs := by
    have e := val_append (xs.take k) (xs.drop k)
    rw [List.take_append_drop] at e
    have hlen : (xs.take k).length = k := by simp; omega
    rw [hlen] at e
    have hd : val (xs.drop k) = 0 := by
      rcases Nat.eq_zero_or_pos (val (xs.drop k)) with h1 | h1
      · exact h1
      · have := Nat.le_mul_of_pos_right (W ^ k) h1; omega
    rw [hd] at e; omega
  rw [words_wordsN, hn]
  exact eq_wordsN hok (by simp; omega) (by rw [htv, Nat.mod_eq_of_lt hv])
theorem nw_small {n : Nat} (h : n < W) (h0 : n ≠ 0) : (List.length (words n)) = 1 := by
  have := nw_le (n := n) (k := 1) (by simpa using h)
  have := nw_pos h0; omega
theorem words_small {n : Nat} (h : n < W) : words n = if n = 0 then [] else [n] := by
  by_cases h0 : n = 0
  · subst h0; rw [words_zero]; rfl
  · rw [if_neg h0, words_pos h0, Nat.mod_eq_of_lt h, Nat.div_eq_of_lt h, words_zero]
theorem lt_of_nw_le_one {n : Nat} (h : (List.length (words n)) ≤ 1) : n < W := by
  have := nw_lt n
  have h2 : W ^ (List.length (words n)) ≤ W ^ 1 := Nat.pow_le_pow_right (by decide) h
  simp at h2; omega
theorem val_replicate (k : Nat) : val (List.replicate k 0) = 0 := by
  induction k with
  | zero => rfl
  | succ k ih => rw [List.replicate_succ, val, ih]; rfl
def cmpN (m n : Nat) : Int := if m < n then -1 else if n < m then 1 else 0
end Go.Nt
namespace Go.Nt
theorem mul32 {a b : Nat} (ha : a < 4294967296) (hb : b < 4294967296) : a * b ≤ 18446744065119617025 := by
  have : a * b ≤ 4294967295 * 4294967295 := Nat.mul_le_mul (by omega) (by omega)
  omega
theorem mul64_facts {x y : Nat} (hx : x < 18446744073709551616) (hy : y < 18446744073709551616) :
    x % 2 ^ 32 * (y % 2 ^ 32) ≤ 18446744065119617025 ∧ x / 2 ^ 32 * (y % 2 ^ 32) ≤ 18446744065119617025 ∧ x % 2 ^ 32 * (y / 2 ^ 32) ≤ 18446744065119617025 ∧ x / 2 ^ 32 * (y / 2 ^ 32) ≤ 18446744065119617025 :=
  ⟨mul32 (by omega) (by omega), mul32 (by omega) (by omega), mul32 (by omega) (by omega), mul32 (by omega) (by omega)⟩
theorem mul64_hi (x y : Nat) : x / 2 ^ 32 * (y / 2 ^ 32) + (x / 2 ^ 32 * (y % 2 ^ 32) + x % 2 ^ 32 * (y % 2 ^ 32) / 2 ^ 32) / 2 ^ 32 +
    ((x / 2 ^ 32 * (y % 2 ^ 32) + x % 2 ^ 32 * (y % 2 ^ 32) / 2 ^ 32) % 2 ^ 32 + x % 2 ^ 32 * (y / 2 ^ 32)) / 2 ^ 32 = x * y / 18446744073709551616 := by
  have hx : x = x % 2 ^ 32 + 4294967296 * (x / 2 ^ 32) := by omega
  have hy : y = y % 2 ^ 32 + 4294967296 * (y / 2 ^ 32) := by omega
  generalize x / 2 ^ 32 = x1 at *
  generalize y / 2 ^ 32 = y1 at *
  generalize x % 2 ^ 32 = x0 at *
  generalize y % 2 ^ 32 = y0 at *
  have e : x * y = x0 * y0 + 4294967296 * (x1 * y0 + x0 * y1) + 18446744073709551616 * (x1 * y1) := by rw [hx, hy]; grind
  rw [e]
  generalize x0 * y0 = p at *
  generalize x1 * y0 = q at *
  generalize x0 * y1 = r at *
  generalize x1 * y1 = s at *
  omega
theorem word_0 {n : Nat} (h : (List.length (words n)) = 0) : 0 = (if n < 18446744073709551616 then n else 0) ∧ true = decide (n < 18446744073709551616) := by
  have : n = 0 := by
    rcases Nat.eq_zero_or_pos n with h1 | h1
    · exact h1
    · have := nw_pos (n := n) (by omega); omega
  subst this; simp
theorem word_1 {n : Nat} (h : (List.length (words n)) = 1) : (words n).getD 0 0 = (if n < 18446744073709551616 then n else 0) ∧ true = decide (n < 18446744073709551616) := by
  have h1 : n < 18446744073709551616 := lt_of_nw_le_one (by omega)
  rw [getD_words, if_pos h1]
  simp [dig, h1, Nat.mod_eq_of_lt h1]
theorem word_2 {n : Nat} (h : 1 < (List.length (words n))) : 0 = (if n < 18446744073709551616 then n else 0) ∧ false = decide (n < 18446744073709551616) := by
  have h1 : ¬ n < 18446744073709551616 := fun h2 => by
    have := nw_le (n := n) (k := 1) (by simpa using h2); omega
  rw [if_neg h1]; simp [h1]
theorem cmp_start {m n : Nat} (h : (List.length (words m)) = (List.length (words n))) : m / W ^ (List.length (words m)) = n / W ^ (List.length (words m)) := by
  rw [Nat.div_eq_of_lt (nw_lt m), h, Nat.div_eq_of_lt (nw_lt n)]
theorem div_pow_succ (n k : Nat) (hk : 0 < k) : n / W ^ (k - 1) = W * (n / W ^ k) + dig n (k - 1) := by
  have e : W ^ k = W ^ (k - 1) * W := by rw [← Nat.pow_succ]; congr 1; omega
  rw [e, ← Nat.div_div_eq_div_mul, dig]
  exact (Nat.div_add_mod _ _).symm
theorem cmp_step {m n k : Nat} (hk : 0 < k) (h : m / W ^ k = n / W ^ k) (hd : (words m).getD (k - 1) 0 = (words n).getD (k - 1) 0) : m / W ^ (k - 1) = n / W ^ (k - 1) := by
  rw [getD_words, getD_words] at hd
  rw [div_pow_succ m k hk, div_pow_succ n k hk, h, hd]
theorem lt_of_div {m n k : Nat} (h : m / W ^ k < n / W ^ k) : m < n := by
  apply Classical.byContradiction; intro hc
  have := Nat.div_le_div_right (c := W ^ k) (Nat.le_of_not_lt hc); omega
theorem cmp_lt {m n k : Nat} (hk : 0 < k) (h : m / W ^ k = n / W ^ k) (hd : (words m).getD (k - 1) 0 < (words n).getD (k - 1) 0) : -1 = cmpN m n := by
  rw [getD_words, getD_words] at hd
  have : m < n := lt_of_div (k := k - 1) (by rw [div_pow_succ m k hk, div_pow_succ n k hk, h]; omega)
  unfold cmpN; rw [if_pos this]
theorem cmp_gt {m n k : Nat} (hk : 0 < k) (h : m / W ^ k = n / W ^ k) (hd : (words n).getD (k - 1) 0 < (words m).getD (k - 1) 0) : 1 = cmpN m n := by
  rw [getD_words, getD_words] at hd
  have : n < m := lt_of_div (k := k - 1) (by rw [div_pow_succ m k hk, div_pow_succ n k hk, h]; omega)
  unfold cmpN; rw [if_neg (by omega), if_pos this]
theorem cmp_eq {m n k : Nat} (h : m / W ^ k = n / W ^ k) (hk : k = 0) : 0 = cmpN m n := by
  subst hk; simp at h; subst h; simp [cmpN]
theorem lt_of_nw {m n : Nat} (h : (List.length (words m)) < (List.length (words n))) : m < n := by
  apply Classical.byContradiction; intro hc
  have := nw_mono (Nat.le_of_not_lt hc); omega
theorem cmp_len_lt {m n : Nat} (h : (List.length (words m)) < (List.length (words n))) : -1 = cmpN m n := by unfold cmpN; rw [if_pos (lt_of_nw h)]
theorem cmp_len_gt {m n : Nat} (h : (List.length (words n)) < (List.length (words m))) : 1 = cmpN m n := by have := lt_of_nw h; unfold cmpN; rw [if_neg (by omega), if_pos this]
theorem nw_eq (n : Nat) : (words n).length = (List.length (words n)) := rfl
end Go.Nt
