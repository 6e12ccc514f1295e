/- Numbers as digits of 16 bits. No program here. (written by mkdig.py) -/
import Derived.Test.YtokhpacdgoebpaaNatE
namespace Go.Nt
abbrev D : Nat := 65536
/-- the number of some digs, the least significant first -/
def dval : List Nat → Nat
  | [] => 0
  | x :: xs => x + D * dval xs
/-- so many digs of a number -/
def digsN : Nat → Nat → List Nat
  | 0, _ => []
  | k + 1, n => n % D :: digsN k (n / D)
/-- a number's digs, without needless noughts -/
def digs (n : Nat) : List Nat := if h : n = 0 then [] else n % D :: digs (n / D)
termination_by n
decreasing_by exact Nat.div_lt_self (Nat.pos_of_ne_zero h) (by decide)
def OkD (xs : List Nat) : Prop := ∀ x ∈ xs, x < D

theorem d_words_zero : digs 0 = [] := by unfold digs; simp
theorem d_words_pos {n : Nat} (h : n ≠ 0) : digs n = n % D :: digs (n / D) := by rw [digs]; simp [h]
theorem d_nw_zero : (List.length (digs 0)) = 0 := by rw [d_words_zero]; rfl
theorem d_nw_pos {n : Nat} (h : n ≠ 0) : (List.length (digs n)) = (List.length (digs (n / D))) + 1 := by rw [d_words_pos h]; rfl
theorem d_val_words (n : Nat) : dval (digs n) = n := by
  induction n using Nat.strongRecOn with
  | _ n ih =>
    by_cases h : n = 0
    · subst h; rw [d_words_zero]; rfl
    · rw [d_words_pos h, dval, ih _ (Nat.div_lt_self (Nat.pos_of_ne_zero h) (by decide))]
      have := Nat.mod_add_div n D; omega
theorem d_words_ok (n : Nat) : OkD (digs n) := by
  induction n using Nat.strongRecOn with
  | _ n ih =>
    by_cases h : n = 0
    · subst h; rw [d_words_zero]; intro x hx; simp at hx
    · rw [d_words_pos h]; intro x hx
      rcases List.mem_cons.1 hx with rfl | hx
      · exact Nat.mod_lt _ (by decide)
      · exact ih _ (Nat.div_lt_self (Nat.pos_of_ne_zero h) (by decide)) x hx
theorem d_wordsN_len : ∀ (k n : Nat), (digsN k n).length = k
  | 0, _ => rfl
  | k + 1, n => by simp [digsN, d_wordsN_len k]
theorem d_wordsN_ok : ∀ (k n : Nat), OkD (digsN k n)
  | 0, _ => fun x hx => by simp [digsN] at hx
  | k + 1, n => fun x hx => by
    rcases List.mem_cons.1 hx with rfl | hx
    · exact Nat.mod_lt _ (by decide)
    · exact d_wordsN_ok k _ x hx
theorem d_val_wordsN : ∀ (k n : Nat), dval (digsN k n) = n % D ^ k
  | 0, n => by simp [digsN, dval, Nat.mod_one]
  | k + 1, n => by
    rw [digsN, dval, d_val_wordsN k, Nat.pow_succ, Nat.mul_comm (D ^ k) D, Nat.mod_mul]
theorem d_val_lt {xs : List Nat} (h : OkD xs) : dval xs < D ^ xs.length := by
  induction xs with
  | nil => simp [dval]
  | cons x xs ih =>
    have h1 := h x (by simp)
    have h2 := ih (fun y hy => h y (by simp [hy]))
    rw [dval, List.length_cons, Nat.pow_succ]
    have : D * dval xs + D ≤ D * D ^ xs.length := by rw [← Nat.mul_succ]; exact Nat.mul_le_mul_left _ h2
    rw [Nat.mul_comm (D ^ xs.length)]; omega
theorem d_val_append (xs ys : List Nat) : dval (xs ++ ys) = dval xs + D ^ xs.length * dval ys := by
  induction xs with
  | nil => simp [dval]
  | cons x xs ih => rw [List.cons_append, dval, ih, dval, List.length_cons, Nat.pow_succ]; grind
theorem d_ok_append {xs ys : List Nat} (h : OkD xs) (k : OkD ys) : OkD (xs ++ ys) := fun x hx => by
  rcases List.mem_append.1 hx with h1 | h1
  · exact h x h1
  · exact k x h1
theorem d_val_inj : ∀ {xs ys : List Nat}, OkD xs → OkD ys → xs.length = ys.length → dval xs = dval ys → xs = ys
  | [], [], _, _, _, _ => rfl
  | x :: xs, y :: ys, h1, h2, hl, hv => by
    have hx := h1 x (by simp)
    have hy := h2 y (by simp)
    simp only [dval] at hv
    have e : x = y := by
      have := congrArg (· % D) hv
      simp only [Nat.add_mul_mod_self_left] at this
      rwa [Nat.mod_eq_of_lt hx, Nat.mod_eq_of_lt hy] at this
    subst e
    have e2 : dval xs = dval ys := Nat.eq_of_mul_eq_mul_left (by decide : 0 < D) (by omega)
    rw [d_val_inj (fun z hz => h1 z (by simp [hz])) (fun z hz => h2 z (by simp [hz])) (by simpa using hl) e2]
theorem d_eq_wordsN {xs : List Nat} {k n : Nat} (h : OkD xs) (hl : xs.length = k) (hv : dval xs = n % D ^ k) : xs = digsN k n :=
  d_val_inj h (d_wordsN_ok _ _) (by rw [hl, d_wordsN_len]) (by rw [hv, d_val_wordsN])
theorem d_nw_lt (n : Nat) : n < D ^ (List.length (digs n)) := by have := d_val_lt (d_words_ok n); rwa [d_val_words] at this
theorem d_nw_le {n k : Nat} (h : n < D ^ k) : (List.length (digs n)) ≤ k := by
  induction k generalizing n with
  | zero => have : n = 0 := by simpa using h
            subst this; rw [d_nw_zero]; exact Nat.le_refl _
  | succ k ih =>
    by_cases h0 : n = 0
    · subst h0; rw [d_nw_zero]; omega
    · rw [d_nw_pos h0]
      have : n / D < D ^ k := by rw [Nat.div_lt_iff_lt_mul (by decide)]; rwa [Nat.pow_succ] at h
      have := ih this; omega
theorem d_nw_mono {m n : Nat} (h : m ≤ n) : (List.length (digs m)) ≤ (List.length (digs n)) := d_nw_le (Nat.lt_of_le_of_lt h (d_nw_lt n))
theorem d_le_of_nw {n : Nat} (h : n ≠ 0) : D ^ ((List.length (digs n)) - 1) ≤ n := by
  apply Classical.byContradiction; intro hc
  have := d_nw_le (Nat.lt_of_not_le hc)
  have := d_nw_pos h; omega
theorem d_nw_val {xs : List Nat} (h : OkD xs) : (List.length (digs (dval xs))) ≤ xs.length := d_nw_le (d_val_lt h)
/-- the i-th word -/
def dg (n i : Nat) : Nat := n / D ^ i % D
theorem d_dig_lt (n i : Nat) : dg n i < D := Nat.mod_lt _ (by decide)
theorem d_getD_words (n i : Nat) : (digs n).getD i 0 = dg n i := by
  induction i generalizing n with
  | zero =>
    by_cases h : n = 0
    · subst h; rw [d_words_zero]; simp [dg]
    · rw [d_words_pos h]; simp [dg]
  | succ i ih =>
    by_cases h : n = 0
    · subst h; rw [d_words_zero]; simp [dg]
    · rw [d_words_pos h, List.getD_cons_succ, ih, dg, dg, Nat.div_div_eq_div_mul, Nat.pow_succ, Nat.mul_comm D]
theorem d_getD_val {xs : List Nat} (h : OkD xs) (i : Nat) : xs.getD i 0 = dg (dval xs) i := by
  induction xs generalizing i with
  | nil => simp [dg, dval]
  | cons x xs ih =>
    have hx := h x (by simp)
    cases i with
    | zero => simp [dg, dval, Nat.mod_eq_of_lt hx]
    | succ i =>
      rw [List.getD_cons_succ, ih (fun y hy => h y (by simp [hy])), dg, dg, dval, Nat.pow_succ, Nat.mul_comm (D ^ i), ← Nat.div_div_eq_div_mul]
      rw [Nat.add_mul_div_left _ _ (by decide), Nat.div_eq_of_lt hx, Nat.zero_add]
theorem d_wordsN_succ (k n : Nat) : digsN (k + 1) n = digsN k n ++ [dg n k] := by
  induction k generalizing n with
  | zero => simp [digsN, dg]
  | succ k ih =>
    rw [digsN, ih, digsN, List.cons_append, dg, dg, Nat.div_div_eq_div_mul, Nat.pow_succ, Nat.mul_comm D]
theorem d_mod_succ (n k : Nat) : n % D ^ (k + 1) = n % D ^ k + D ^ k * dg n k := by
  rw [Nat.pow_succ, Nat.mod_mul, dg]
theorem d_words_wordsN (n : Nat) : digs n = digsN ((List.length (digs n))) n := d_eq_wordsN (d_words_ok n) rfl (by rw [d_val_words, Nat.mod_eq_of_lt (d_nw_lt n)])
theorem d_dig_top {n : Nat} (h : n ≠ 0) : dg n ((List.length (digs n)) - 1) ≠ 0 := by
  intro h0
  have h1 := d_le_of_nw h
  have h2 := d_nw_lt n
  have e : (List.length (digs n)) - 1 + 1 = (List.length (digs n)) := by have := d_nw_pos h; omega
  have h3 : n / D ^ ((List.length (digs n)) - 1) < D := by rw [Nat.div_lt_iff_lt_mul (Nat.pow_pos (by decide)), Nat.mul_comm, ← Nat.pow_succ]; rwa [show ((List.length (digs n)) - 1).succ = (List.length (digs n)) from e]
  rw [dg, Nat.mod_eq_of_lt h3] at h0
  have := (Nat.div_eq_zero_iff.1 h0).resolve_left (Nat.ne_of_gt (Nat.pow_pos (by decide)))
  omega
theorem d_dig_zero {n i : Nat} (h : (List.length (digs n)) ≤ i) : dg n i = 0 := by
  rw [dg, Nat.div_eq_of_lt (Nat.lt_of_lt_of_le (d_nw_lt n) (Nat.pow_le_pow_right (by decide) h))]; rfl
/-- digs whose last one is no nought, or none -/
theorem d_words_of_take {xs : List Nat} {k : Nat} (h : OkD xs) (hk : k ≤ xs.length) (h0 : ∀ i, k ≤ i → xs.getD i 0 = 0) (ht : k = 0 ∨ xs.getD (k - 1) 0 ≠ 0) : xs.take k = digs (dval xs) := by
  have hv : dval xs < D ^ k := by
    clear ht
    induction xs generalizing k with
    | nil => simp [dval]; exact Nat.pow_pos (by decide)
    | cons x xs ih =>
      cases k with
      | zero =>
        have hx := h0 0 (Nat.le_refl _)
        simp at hx
        have := ih (fun y hy => h y (by simp [hy])) (Nat.zero_le _) (fun i _ => by simpa using h0 (i + 1) (by omega))
        simp at this
        simp [dval, hx, this]
      | succ k =>
        have := ih (fun y hy => h y (by simp [hy])) (by simpa using hk) (fun i hi => by simpa using h0 (i + 1) (by omega))
        have hx := h x (by simp)
        rw [dval, Nat.pow_succ, Nat.mul_comm (D ^ k)]
        have h3 : D * dval xs + D ≤ D * D ^ k := by rw [← Nat.mul_succ]; exact Nat.mul_le_mul_left _ this
        omega
  have hn : (List.length (digs (dval xs))) = k := by
    have h1 := d_nw_le hv
    rcases ht with rfl | ht
    · omega
    · rcases Nat.lt_or_ge ((List.length (digs (dval xs)))) k with h2 | h2
      · exfalso; apply ht; rw [d_getD_val h]; exact d_dig_zero (by omega)
      · omega
  have hok : OkD (xs.take k) := fun x hx => h x (List.mem_of_mem_take hx)
  have htv : dval (xs.take k) = dval xs := by
    have e := d_val_append (xs.take k) (xs.drop k)
    rw [List.take_append_drop] at e
    have hlen : (xs.take k).length = k := by simp; omega
    rw [hlen] at e
    have hd : dval (xs.drop k) = 0 := by
      rcases Nat.eq_zero_or_pos (dval (xs.drop k)) with h1 | h1
      · exact h1
      · have := Nat.le_mul_of_pos_right (D ^ k) h1; omega
    rw [hd] at e; omega
  rw [d_words_wordsN, hn]
  exact d_eq_wordsN hok (by simp; omega) (by rw [htv, Nat.mod_eq_of_lt hv])
theorem d_nw_small {n : Nat} (h : n < D) (h0 : n ≠ 0) : (List.length (digs n)) = 1 := by
  have := d_nw_le (n := n) (k := 1) (by simpa using h)
  have := d_nw_pos h0; omega
theorem d_words_small {n : Nat} (h : n < D) : digs n = if n = 0 then [] else [n] := by
  by_cases h0 : n = 0
  · subst h0; rw [d_words_zero]; rfl
  · rw [if_neg h0, d_words_pos h0, Nat.mod_eq_of_lt h, Nat.div_eq_of_lt h, d_words_zero]
theorem d_lt_of_nw_le_one {n : Nat} (h : (List.length (digs n)) ≤ 1) : n < D := by
  have := d_nw_lt n
  have h2 : D ^ (List.length (digs n)) ≤ D ^ 1 := Nat.pow_le_pow_right (by decide) h
  simp at h2; omega
theorem d_val_replicate (k : Nat) : dval (List.replicate k 0) = 0 := by
  induction k with
  | zero => rfl
  | succ k ih => rw [List.replicate_succ, dval, ih]; rfl
theorem d_cmp_start {m n : Nat} (h : (List.length (digs m)) = (List.length (digs n))) : m / D ^ (List.length (digs m)) = n / D ^ (List.length (digs m)) := by
  rw [Nat.div_eq_of_lt (d_nw_lt m), h, Nat.div_eq_of_lt (d_nw_lt n)]
theorem d_div_pow_succ (n k : Nat) (hk : 0 < k) : n / D ^ (k - 1) = D * (n / D ^ k) + dg n (k - 1) := by
  have e : D ^ k = D ^ (k - 1) * D := by rw [← Nat.pow_succ]; congr 1; omega
  rw [e, ← Nat.div_div_eq_div_mul, dg]
  exact (Nat.div_add_mod _ _).symm
theorem d_cmp_step {m n k : Nat} (hk : 0 < k) (h : m / D ^ k = n / D ^ k) (hd : (digs m).getD (k - 1) 0 = (digs n).getD (k - 1) 0) : m / D ^ (k - 1) = n / D ^ (k - 1) := by
  rw [d_getD_words, d_getD_words] at hd
  rw [d_div_pow_succ m k hk, d_div_pow_succ n k hk, h, hd]
theorem d_lt_of_div {m n k : Nat} (h : m / D ^ k < n / D ^ k) : m < n := by
  apply Classical.byContradiction; intro hc
  have := Nat.div_le_div_right (c := D ^ k) (Nat.le_of_not_lt hc); omega
theorem d_cmp_lt {m n k : Nat} (hk : 0 < k) (h : m / D ^ k = n / D ^ k) (hd : (digs m).getD (k - 1) 0 < (digs n).getD (k - 1) 0) : -1 = cmpN m n := by
  rw [d_getD_words, d_getD_words] at hd
  have : m < n := d_lt_of_div (k := k - 1) (by rw [d_div_pow_succ m k hk, d_div_pow_succ n k hk, h]; omega)
  unfold cmpN; rw [if_pos this]
theorem d_cmp_gt {m n k : Nat} (hk : 0 < k) (h : m / D ^ k = n / D ^ k) (hd : (digs n).getD (k - 1) 0 < (digs m).getD (k - 1) 0) : 1 = cmpN m n := by
  rw [d_getD_words, d_getD_words] at hd
  have : n < m := d_lt_of_div (k := k - 1) (by rw [d_div_pow_succ m k hk, d_div_pow_succ n k hk, h]; omega)
  unfold cmpN; rw [if_neg (by omega), if_pos this]
theorem d_cmp_eq {m n k : Nat} (h : m / D ^ k = n / D ^ k) (hk : k = 0) : 0 = cmpN m n := by
  subst hk; simp at h; subst h; simp [cmpN]
theorem d_lt_of_nw {m n : Nat} (h : (List.length (digs m)) < (List.length (digs n))) : m < n := by
  apply Classical.byContradiction; intro hc
  have := d_nw_mono (Nat.le_of_not_lt hc); omega
theorem d_cmp_len_lt {m n : Nat} (h : (List.length (digs m)) < (List.length (digs n))) : -1 = cmpN m n := by unfold cmpN; rw [if_pos (d_lt_of_nw h)]
theorem d_cmp_len_gt {m n : Nat} (h : (List.length (digs n)) < (List.length (digs m))) : 1 = cmpN m n := by have := d_lt_of_nw h; unfold cmpN; rw [if_neg (by omega), if_pos this]
theorem d_nw_eq (n : Nat) : (digs n).length = (List.length (digs n)) := rfl
theorem d_words_val_wordsN {N k : Nat} (h : N < D ^ k) : digs (dval (digsN k N)) = digs N := by rw [d_val_wordsN, Nat.mod_eq_of_lt h]
theorem d_pow_pos' (k : Nat) : 0 < D ^ k := Nat.pow_pos (by decide)
theorem d_pow_le_pow' {a b : Nat} (h : a ≤ b) : D ^ a ≤ D ^ b := Nat.pow_le_pow_right (by decide) h
theorem d_lt_pow_of {n k : Nat} (h : (List.length (digs n)) ≤ k) : n < D ^ k := Nat.lt_of_lt_of_le (d_nw_lt n) (d_pow_le_pow' h)
theorem d_div_succ (n i : Nat) : n / D ^ i = D * (n / D ^ (i + 1)) + dg n i := by
  have := d_div_pow_succ n (i + 1) (by omega); simpa using this
def dbor (p q i : Nat) : Nat := if p % D ^ i < q % D ^ i then 1 else 0
theorem d_bor_zero (p q : Nat) : 0 = dbor p q 0 := by simp [dbor, Nat.mod_one]
theorem d_bor_le (p q i : Nat) : dbor p q i ≤ 1 := by unfold dbor; split <;> omega
theorem d_bor_succ (p q i : Nat) : (if dg p i < dg q i + dbor p q i then 1 else 0) = dbor p q (i + 1) := by
  have h1 := d_mod_succ p i
  have h2 := d_mod_succ q i
  have h3 := Nat.mod_lt p (d_pow_pos' i)
  have h4 := Nat.mod_lt q (d_pow_pos' i)
  unfold dbor
  rw [h1, h2]
  generalize p % D ^ i = a at *
  generalize q % D ^ i = b at *
  generalize dg p i = x at *
  generalize dg q i = y at *
  generalize D ^ i = w at *
  rcases Nat.lt_trichotomy x y with h | h | h
  · have : w * x + w ≤ w * y := by rw [← Nat.mul_succ]; exact Nat.mul_le_mul_left _ h
    rw [if_pos (by omega), if_pos (by omega)]
  · subst h
    by_cases hab : a < b
    · rw [if_pos hab, if_pos (by omega), if_pos (by omega)]
    · rw [if_neg hab, if_neg (by omega), if_neg (by omega)]
  · have : w * y + w ≤ w * x := by rw [← Nat.mul_succ]; exact Nat.mul_le_mul_left _ h
    rw [if_neg (by split <;> omega), if_neg (by omega)]
theorem d_sub_eq {p q : Nat} (h : q ≤ p) (i : Nat) : (p - q) / D ^ i + q / D ^ i + dbor p q i = p / D ^ i := by
  have h1 := Nat.mod_add_div p (D ^ i)
  have h2 := Nat.mod_add_div q (D ^ i)
  have h3 := Nat.mod_lt p (d_pow_pos' i)
  have h4 := Nat.mod_lt q (d_pow_pos' i)
  have h5 := Nat.mod_add_div (p - q) (D ^ i)
  have h6 := Nat.mod_lt (p - q) (d_pow_pos' i)
  unfold dbor
  generalize p % D ^ i = a at *
  generalize q % D ^ i = b at *
  generalize (p - q) % D ^ i = c at *
  generalize p / D ^ i = x at *
  generalize q / D ^ i = y at *
  generalize (p - q) / D ^ i = z at *
  have hw := d_pow_pos' i
  generalize D ^ i = w at *
  have e : c + w * z + (b + w * y) = a + w * x := by omega
  have e2 : c + b + w * (z + y) = a + w * x := by rw [Nat.mul_add]; omega
  split
  · have hz : w * (z + y) < w * x := by
      apply Classical.byContradiction; intro hc
      have : c + b ≤ a := by omega
      omega
    have h7 : z + y < x := Nat.lt_of_mul_lt_mul_left hz
    have h8 : x ≤ z + y + 1 := by
      apply Classical.byContradiction; intro hc
      have : w * (z + y + 2) ≤ w * x := Nat.mul_le_mul_left _ (by omega)
      rw [Nat.mul_add] at this; omega
    omega
  · have h7 : z + y < x + 1 := by
      apply Nat.lt_of_mul_lt_mul_left (a := w); rw [Nat.mul_add w x]; omega
    have h8 : x < z + y + 1 := by
      apply Classical.byContradiction; intro hc
      have : w * (z + y + 1) ≤ w * x := Nat.mul_le_mul_left _ (by omega)
      rw [Nat.mul_add w (z + y)] at this
      omega
    omega
theorem d_sub_dig {p q : Nat} (h : q ≤ p) (i : Nat) : (dg p i + D - dg q i - dbor p q i) % D = dg (p - q) i := by
  have h1 := d_sub_eq h i
  have h2 := d_sub_eq h (i + 1)
  have h3 := d_div_succ p i
  have h4 := d_div_succ q i
  have h5 := d_div_succ (p - q) i
  have h6 := d_bor_succ p q i
  have h7 := d_dig_lt (p - q) i
  have h8 := d_dig_lt p i
  have h9 := d_dig_lt q i
  have := d_bor_le p q i
  generalize p / D ^ (i + 1) = a' at *
  generalize q / D ^ (i + 1) = b' at *
  generalize (p - q) / D ^ (i + 1) = s' at *
  generalize p / D ^ i = a at *
  generalize q / D ^ i = b at *
  generalize (p - q) / D ^ i = s at *
  generalize dbor p q i = e at *
  generalize dbor p q (i + 1) = e' at *
  unfold D at *
  split at h6 <;> omega
end Go.Nt
