/- Plain numbers: binomials, Fermat's little theorem, primes by trial division; the fields' functions. No program here. -/
namespace Go.Gf
/-- binomials -/
def ch : Nat → Nat → Nat
  | _, 0 => 1
  | 0, _ + 1 => 0
  | n + 1, k + 1 => ch n k + ch n (k + 1)
theorem ch_zero (n : Nat) : ch n 0 = 1 := by cases n <;> rfl
theorem ch_over (n : Nat) : ∀ k, n < k → ch n k = 0 := by
  induction n with
  | zero => intro k h; cases k with | zero => omega | succ k => rfl
  | succ n ih =>
    intro k h
    cases k with
    | zero => omega
    | succ k => simp only [ch]; rw [ih k (by omega), ih (k+1) (by omega)]
theorem ch_mul (n : Nat) : ∀ k, (k + 1) * ch (n + 1) (k + 1) = (n + 1) * ch n k := by
  induction n with
  | zero =>
    intro k
    cases k with
    | zero => rfl
    | succ k => simp [ch]
  | succ n ih =>
    intro k
    cases k with
    | zero =>
      have := ih 0
      simp only [ch_zero] at this ⊢
      rw [ch, ch_zero]
      grind
    | succ k =>
      have h1 := ih k
      have h2 := ih (k + 1)
      have e1 : ch (n + 1 + 1) (k + 1 + 1) = ch (n + 1) (k + 1) + ch (n + 1) (k + 1 + 1) := rfl
      have e2 : ch (n + 1) (k + 1) = ch n k + ch n (k + 1) := rfl
      rw [e1]
      grind
/-- the first m terms of (a+1)^n -/
def S (a n : Nat) : Nat → Nat
  | 0 => 0
  | m + 1 => S a n m + ch n m * a ^ m
theorem S_succ (a n : Nat) : ∀ m, S a (n + 1) (m + 1) = S a n (m + 1) + a * S a n m := by
  intro m
  induction m with
  | zero => simp [S, ch_zero]
  | succ m ih =>
    rw [S, ih, S, S]
    have : ch (n + 1) (m + 1) = ch n m + ch n (m + 1) := rfl
    rw [this]
    have e2 : S a n (m + 1) = S a n m + ch n m * a ^ m := rfl
    rw [e2]
    rw [Nat.pow_succ]
    grind
theorem S_all (a n : Nat) : S a n (n + 1) = (a + 1) ^ n := by
  induction n with
  | zero => simp [S, ch_zero]
  | succ n ih =>
    rw [S_succ, ih]
    have : S a n (n + 1 + 1) = S a n (n + 1) := by rw [S, ch_over n (n+1) (by omega)]; simp
    rw [this, ih, Nat.pow_succ]
    grind
def Prime (p : Nat) : Prop := 2 ≤ p ∧ ∀ d, d ∣ p → d = 1 ∨ d = p
theorem Prime.coprime {p k : Nat} (hp : Prime p) (h : ¬ p ∣ k) : Nat.Coprime p k := by
  rcases hp.2 (Nat.gcd p k) (Nat.gcd_dvd_left p k) with e | e
  · exact e
  · exact absurd (e ▸ Nat.gcd_dvd_right p k) h
theorem Prime.dvd_mul {p a b : Nat} (hp : Prime p) (h : p ∣ a * b) : p ∣ a ∨ p ∣ b := by
  by_cases ha : p ∣ a
  · exact .inl ha
  · exact .inr ((hp.coprime ha).dvd_of_dvd_mul_left h)
theorem Prime.dvd_ch {p : Nat} (hp : Prime p) (k : Nat) (h1 : k + 1 < p) : p ∣ ch p (k + 1) := by
  obtain ⟨n, rfl⟩ : ∃ n, p = n + 1 := ⟨p - 1, by omega⟩
  have h := ch_mul n k
  have hd : n + 1 ∣ (k + 1) * ch (n + 1) (k + 1) := ⟨_, h⟩
  rcases hp.dvd_mul hd with e | e
  · have := Nat.le_of_dvd (by omega) e; omega
  · exact e
theorem S_mod {p : Nat} (hp : Prime p) (a : Nat) : ∀ m, 1 ≤ m → m ≤ p → S a p m % p = 1 % p := by
  intro m h1 h2
  induction m with
  | zero => omega
  | succ m ih =>
    rw [S]
    cases m with
    | zero => simp [S, ch_zero]
    | succ m =>
      obtain ⟨c, hc⟩ := hp.dvd_ch m (by omega)
      rw [hc, Nat.add_mod, ih (by omega) (by omega)]
      rw [Nat.mul_assoc]
      simp
theorem fermat {p : Nat} (hp : Prime p) (a : Nat) : a ^ p % p = a % p := by
  induction a with
  | zero => rw [Nat.zero_pow (by have := hp.1; omega)]
  | succ a ih =>
    rw [← S_all, S, Nat.add_mod, S_mod hp a p (by have := hp.1; omega) (by omega)]
    have : ch p p = 1 := by
      clear ih hp
      induction p with
      | zero => rfl
      | succ p ih => rw [ch, ih, ch_over p (p+1) (by omega)]
    rw [this, Nat.one_mul, ih, ← Nat.add_mod, Nat.add_comm]
theorem fermat_inv {p : Nat} (hp : Prime p) (a : Nat) (h : a % p ≠ 0) : a ^ (p - 1) % p = 1 % p := by
  have hf := fermat hp a
  have hc : Nat.Coprime p a := hp.coprime (fun ⟨c, hc⟩ => h (by rw [hc]; simp))
  have e : p - 1 + 1 = p := by have := hp.1; omega
  have h1 : 1 ≤ a ^ (p - 1) := Nat.one_le_iff_ne_zero.2 (fun h0 => by
    have h2 : a = 0 := by
      rcases Nat.eq_zero_or_pos a with h | h
      · exact h
      · have := Nat.pow_pos (n := p - 1) h; omega
    simp [h2] at h)
  have e3 : a * a ^ (p - 1) = a ^ p := by
    rw [← Nat.pow_succ']; exact congrArg (a ^ ·) e
  have hd : p ∣ a * (a ^ (p - 1) - 1) := by
    rw [Nat.mul_sub, Nat.mul_one, e3]
    exact Nat.dvd_of_mod_eq_zero (Nat.sub_mod_eq_zero_of_mod_eq hf)
  obtain ⟨c, hcc⟩ := hc.dvd_of_dvd_mul_left hd
  have : a ^ (p - 1) = 1 + p * c := by omega
  rw [this]; simp

/-- the prime of a field's number -/
def fp (q : Nat) : Nat := if q = 0 then 2 else q
theorem fp_pos (q : Nat) : 0 < fp q := by unfold fp; split <;> omega
theorem fp_lt {q : Nat} (h : q < 4294967296) : fp q < 4294967296 := by unfold fp; split <;> omega
theorem fp_of {q : Nat} (h : 0 < q) : fp q = q := by unfold fp; rw [if_neg (by omega)]
def inv (p a : Nat) : Nat := if a % p = 0 then 0 else a ^ (p - 2) % p
theorem raise_start (q a n : Nat) (hp : 0 < q) (hn : n < 18446744073709551616) : 1 % q * a ^ n % q = a ^ n % q ∧ 1 % q < q ∧ n < 18446744073709551616 :=
  ⟨by rw [Nat.mod_mul_mod, Nat.one_mul], Nat.mod_lt _ hp, hn⟩
theorem pow_half (x k : Nat) : (x * x) ^ (k / 2) * x ^ (k % 2) = x ^ k := by
  have e : k / 2 + k / 2 + k % 2 = k := by omega
  rw [Nat.mul_pow, ← Nat.pow_add, ← Nat.pow_add, e]
theorem raise_odd {p o x k r : Nat} (hp : 0 < p) (h : o * x ^ k % p = r) (hk : k < 18446744073709551616) (h2 : k % 2 = 1) :
    o * x % p * (x * x % p) ^ (k / 2) % p = r ∧ o * x % p < p ∧ k / 2 < 18446744073709551616 := by
  refine ⟨?_, Nat.mod_lt _ hp, by omega⟩
  rw [Nat.mod_mul_mod, Nat.mul_mod, ← Nat.pow_mod, ← Nat.mul_mod, ← h]
  have := pow_half x k
  rw [h2, Nat.pow_one] at this
  rw [← this]; congr 1; grind
theorem raise_even {p o x k r : Nat} (h : o * x ^ k % p = r) (ho : o < p) (hk : k < 18446744073709551616) (h2 : k % 2 ≠ 1) :
    o * (x * x % p) ^ (k / 2) % p = r ∧ o < p ∧ k / 2 < 18446744073709551616 := by
  refine ⟨?_, ho, by omega⟩
  rw [Nat.mul_mod, ← Nat.pow_mod, ← Nat.mul_mod, ← h]
  have := pow_half x k
  rw [show k % 2 = 0 by omega, Nat.pow_zero, Nat.mul_one] at this
  rw [this]
theorem raise_end {p o x k r : Nat} (h : o * x ^ k % p = r) (ho : o < p) (hk : k = 0) : o = r := by
  subst hk; simp at h; rw [Nat.mod_eq_of_lt ho] at h; exact h

/-- no divisor below d but 1 -/
def NoDiv (p d : Nat) : Prop := ∀ e, 2 ≤ e → e < d → ¬ e ∣ p

theorem prime_of_noDiv {p d : Nat} (hp : 2 ≤ p) (h : NoDiv p d) (hd : p < d * d) : Prime p := by
  refine ⟨hp, fun e ⟨f, hf⟩ => ?_⟩
  rcases Nat.lt_or_ge 1 e with h1 | h1
  · rcases Nat.lt_or_ge 1 f with h2 | h2
    · exfalso
      rcases Nat.lt_or_ge e d with h3 | h3
      · exact h e h1 h3 ⟨f, hf⟩
      · rcases Nat.lt_or_ge f d with h4 | h4
        · exact h f h2 h4 ⟨e, by rw [hf, Nat.mul_comm]⟩
        · have := Nat.mul_le_mul h3 h4; omega
    · right
      have : f = 1 := by rcases Nat.lt_or_ge f 1 with h5 | h5
                         · have : f = 0 := by omega
                           subst this; omega
                         · omega
      subst this; omega
  · left
    rcases Nat.lt_or_ge e 1 with h5 | h5
    · have : e = 0 := by omega
      subst this; omega
    · omega
theorem noDiv_step {p d : Nat} (hodd : p % 2 = 1) (hd : d % 2 = 1) (h : NoDiv p d) (h1 : p % d ≠ 0) : NoDiv p (d + 2) := by
  intro e he hlt hdv
  rcases Nat.lt_or_ge e d with h2 | h2
  · exact h e he h2 hdv
  · rcases Nat.lt_or_ge d e with h3 | h3
    · have : e = d + 1 := by omega
      subst this
      have h4 : 2 ∣ p := Nat.dvd_trans ⟨(d + 1) / 2, by omega⟩ hdv
      omega
    · have : e = d := by omega
      subst this
      exact h1 (Nat.mod_eq_zero_of_dvd hdv)
theorem prime_two : Prime 2 := ⟨by omega, fun d hd => by have := Nat.le_of_dvd (by omega) hd; rcases Nat.eq_zero_or_pos d with h | h; subst h; simp at hd; omega⟩
theorem prime_odd {p : Nat} (hp : Prime p) (h : p ≠ 2) : p % 2 = 1 := by
  rcases Nat.mod_two_eq_zero_or_one p with h1 | h1
  · rcases hp.2 2 (Nat.dvd_of_mod_eq_zero h1) with h2 | h2 <;> omega
  · exact h1
theorem not_prime_of_div {p d : Nat} (hd : 2 ≤ d) (h : d * d ≤ p) (h0 : p % d = 0) : ¬ Prime p := by
  intro hp
  have h3 : d < p := Nat.lt_of_lt_of_le (by have := Nat.mul_le_mul_left d hd; omega) h
  rcases hp.2 d (Nat.dvd_of_mod_eq_zero h0) with e | e <;> omega
end Go.Gf
namespace Go.Gf
def pr (p : Nat) : Bool := decide (2 ≤ p ∧ p < 2147483648 ∧ ∀ e, e < p → 2 ≤ e → ¬ e ∣ p)
theorem pr_iff {p : Nat} : pr p = true ↔ Prime p ∧ p < 2147483648 := by
  unfold pr
  rw [decide_eq_true_eq]
  constructor
  · rintro ⟨h1, h2, h3⟩
    refine ⟨⟨h1, fun d hd => ?_⟩, h2⟩
    rcases Nat.lt_or_ge d p with h | h
    · rcases Nat.lt_or_ge d 2 with h4 | h4
      · rcases Nat.eq_zero_or_pos d with h5 | h5
        · subst h5; simp at hd; omega
        · left; omega
      · exact absurd hd (h3 d h h4)
    · right; have := Nat.le_of_dvd (by omega) hd; omega
  · rintro ⟨hp, h2⟩
    refine ⟨hp.1, h2, fun e h3 h4 hd => ?_⟩
    rcases hp.2 e hd with h | h <;> omega
theorem pr_false {p : Nat} (h : ¬ Prime p ∨ 2147483648 ≤ p) : pr p = false := by
  cases hb : pr p with
  | false => rfl
  | true => have := pr_iff.1 hb; rcases h with h | h; exact absurd this.1 h; omega
theorem pr_small {p : Nat} (h : (p < 2 ∨ 2147483648 ≤ p) ∨ p % 2 = 0) : decide (p = 2) = pr p := by
  by_cases e : p = 2
  · subst e; rw [pr_iff.2 ⟨prime_two, by omega⟩]; rfl
  · rw [pr_false]
    · simp [e]
    · rcases h with (h | h) | h
      · exact .inl (fun hp => by have := hp.1; omega)
      · exact .inr h
      · exact .inl (fun hp => by have := prime_odd hp e; omega)
theorem sq_lt {d p : Nat} (h : d * d ≤ p) (hp : p < 2147483648) : d < 46342 := by
  apply Classical.byContradiction; intro h1
  have := Nat.mul_le_mul (Nat.le_of_not_lt h1) (Nat.le_of_not_lt h1); omega
theorem noDiv_three {p : Nat} (h : p % 2 ≠ 0) : NoDiv p 3 := fun e h1 h2 hd => by
  have : e = 2 := by omega
  subst this; have := Nat.mod_eq_zero_of_dvd hd; omega
theorem noDiv_two (p : Nat) : NoDiv p 2 := fun e h1 h2 => by omega
theorem noDiv_succ {p d : Nat} (h : NoDiv p d) (h1 : p % d ≠ 0) : NoDiv p (d + 1) := by
  intro e he hlt hdv
  rcases Nat.lt_or_ge e d with h2 | h2
  · exact h e he h2 hdv
  · have : e = d := by omega
    subst this; exact h1 (Nat.mod_eq_zero_of_dvd hdv)

/-- no divisor from lo on, 2^k numbers -/
def chk (p : Nat) : Nat → Nat → Bool
  | lo, 0 => !Nat.beq (p % lo) 0
  | lo, k + 1 => chk p lo k && chk p (lo + 2 ^ k) k
theorem chk_spec {p : Nat} : ∀ (k lo : Nat), chk p lo k = true → ∀ e, lo ≤ e → e < lo + 2 ^ k → ¬ e ∣ p
  | 0, lo, h, e, h1, h2 => fun hd => by
    have : e = lo := by simp at h2; omega
    subst this
    have := Nat.mod_eq_zero_of_dvd hd
    simp [chk, this] at h
  | k + 1, lo, h, e, h1, h2 => by
    simp only [chk, Bool.and_eq_true] at h
    rcases Nat.lt_or_ge e (lo + 2 ^ k) with h3 | h3
    · exact chk_spec k lo h.1 e h1 h3
    · exact chk_spec k _ h.2 e h3 (by rw [Nat.pow_succ] at h2; omega)
theorem prime_chk {p k : Nat} (hp : 2 ≤ p) (h : chk p 2 k = true) (hk : p < (2 + 2 ^ k) * (2 + 2 ^ k)) : Prime p :=
  prime_of_noDiv hp (fun e h1 h2 => chk_spec k 2 h e h1 h2) hk

def ptab (k : Nat) : Nat := [2, 3, 5, 7, 11, 13, 101, 65537, 1000003, 1073741827, 2147483629, 2147483647].getD k 2
theorem ptab_le {k : Nat} : ptab k < 2147483648 := by
  unfold ptab
  match k with
  | 0 | 1 | 2 | 3 | 4 | 5 | 6 | 7 | 8 | 9 | 10 | 11 => decide
  | k + 12 => simp
theorem ptab_prime {k : Nat} : Prime (ptab k) := by
  unfold ptab
  match k with
  | 0 => exact prime_two
  | 1 => exact prime_chk (p := 3) (k := 0) (by omega) (by decide) (by decide)
  | 2 => exact prime_chk (p := 5) (k := 0) (by omega) (by decide) (by decide)
  | 3 => exact prime_chk (p := 7) (k := 0) (by omega) (by decide) (by decide)
  | 4 => exact prime_chk (p := 11) (k := 1) (by omega) (by decide) (by decide)
  | 5 => exact prime_chk (p := 13) (k := 1) (by omega) (by decide) (by decide)
  | 6 => exact prime_chk (p := 101) (k := 4) (by omega) (by decide) (by decide)
  | 7 => exact prime_chk (p := 65537) (k := 9) (by omega) (by decide +kernel) (by decide)
  | 8 => exact prime_chk (p := 1000003) (k := 10) (by omega) (by decide +kernel) (by decide)
  | 9 => exact prime_chk (p := 1073741827) (k := 15) (by omega) (by decide +kernel) (by decide)
  | 10 => exact prime_chk (p := 2147483629) (k := 16) (by omega) (by decide +kernel) (by decide)
  | 11 => exact prime_chk (p := 2147483647) (k := 16) (by omega) (by decide +kernel) (by decide)
  | k + 12 => exact prime_two
theorem ptab_pr (k : Nat) : pr (ptab k) = true := pr_iff.2 ⟨ptab_prime, ptab_le⟩
theorem ptab_two (k : Nat) : 2 ≤ ptab k := ptab_prime.1
theorem ptab_fp (k : Nat) : fp (ptab k) = ptab k := fp_of (by have := ptab_two k; omega)
theorem inv_lt {p a : Nat} (hp : 0 < p) : inv p a < p := by unfold inv; split; exact hp; exact Nat.mod_lt _ hp
theorem inv_mul {p a : Nat} (hp : Prime p) (h : a % p ≠ 0) : a * inv p a % p = 1 % p := by
  unfold inv; rw [if_neg h, Nat.mul_mod, Nat.mod_mod, ← Nat.mul_mod, ← Nat.pow_succ', ← fermat_inv hp a h]
  have := hp.1
  congr 2; omega
/-- a power, below 0 of the inverse -/
def powZ (p a : Nat) (z : Int) : Nat := (if z < 0 then inv p a else a) ^ z.natAbs % p
end Go.Gf
namespace Go.Gf
theorem div_lt_of {p d : Nat} (h : 2 ≤ d) (h2 : d ≤ p / d) : d + 1 ≤ p := by
  have := Nat.mul_le_of_le_div d d p h2
  have := Nat.mul_le_mul_left d h; omega
theorem mul_le_of {p d : Nat} (h2 : d ≤ p / d) : d * d ≤ p := Nat.mul_le_of_le_div d d p h2
theorem lt_mul_of {p d : Nat} (h : 0 < d) (h2 : p / d < d) : p < d * d := (Nat.div_lt_iff_lt_mul h).1 h2
theorem ptab_get (n : Nat) {β : Type} (f : Nat → β) : ([f 2, f 3, f 5, f 7, f 11, f 13, f 101, f 65537, f 1000003, f 1073741827, f 2147483629, f 2147483647])[(((n : Int) % 12)).toNat]? = some (f (ptab (n % 12))) := by
  have e : ((n : Int) % 12).toNat = n % 12 := by omega
  rw [e]
  have h : n % 12 < 12 := Nat.mod_lt _ (by omega)
  generalize n % 12 = k at *
  match k, h with
  | 0, _ | 1, _ | 2, _ | 3, _ | 4, _ | 5, _ | 6, _ | 7, _ | 8, _ | 9, _ | 10, _ | 11, _ => rfl
theorem mul_start {a b p : Nat} (hp : 0 < p) (h : p < 4294967296) : 0 = a % p * (b % p / 2 ^ 32) % p := by
  have : b % p / 2 ^ 32 = 0 := Nat.div_eq_of_lt (Nat.lt_trans (Nat.mod_lt _ hp) h)
  rw [this]; simp
theorem half (y : Nat) {k : Nat} (hk : 0 < k) : y / 2 ^ (k - 1) = 2 * (y / 2 ^ k) + y / 2 ^ (k - 1) % 2 := by
  have : y / 2 ^ k = y / 2 ^ (k - 1) / 2 := by
    rw [Nat.div_div_eq_div_mul, ← Nat.pow_succ]; congr 2; omega
  omega
theorem mul_step0 {x y p k o : Nat} (hk : 0 < k) (h : o = x * (y / 2 ^ k) % p) (hb : ¬ y / 2 ^ (k - 1) % 2 = 1) : 2 * o % p = x * (y / 2 ^ (k - 1)) % p := by
  have e := half y hk
  rw [h, Nat.mul_mod_mod]
  congr 1
  rw [e, show y / 2 ^ (k - 1) % 2 = 0 by omega]; grind
theorem mul_step1 {x y p k o : Nat} (hk : 0 < k) (h : o = x * (y / 2 ^ k) % p) (hb : y / 2 ^ (k - 1) % 2 = 1) : (2 * o % p + x) % p = x * (y / 2 ^ (k - 1)) % p := by
  have e := half y hk
  rw [h, Nat.mul_mod_mod, Nat.mod_add_mod]
  congr 1
  rw [e, hb]; grind
theorem mul_end {a b p k o : Nat} (h : o = a % p * (b % p / 2 ^ k) % p) (hk : k = 0) : o = a * b % p := by
  subst hk; simp at h; rw [h]
theorem law_inverse {p q : Nat} (a : Nat) (hp : Prime p) (hq : fp q = p) :
    (decide (a % p = 0) && decide (inv (fp q) a = 0) || !decide (a % p = 0) && decide (a * inv (fp q) a % fp q = 1 % p)) = true := by
  rw [hq]
  by_cases h : a % p = 0
  · simp [h, inv]
  · simp [h, inv_mul hp h]
end Go.Gf
namespace Go.Gf
theorem law_field {p q : Nat} (a b c : Nat) (hq : fp q = p) (hp : 0 < p) :
    (true && true && decide (a * ((b % fp q + c % fp q) % fp q) % fp q = (a * b % fp q % fp q + a * c % fp q % fp q) % fp q) && decide (a * (b * c % fp q) % fp q = a * b % fp q * c % fp q) &&
      decide (((a % fp q + fp q - b % fp q) % fp q % fp q + b % fp q) % fp q = a % fp q)) = true := by
  rw [hq]
  have h1 : a * ((b % p + c % p) % p) % p = (a * b % p % p + a * c % p % p) % p := by
    rw [← Nat.add_mod, Nat.mul_mod_mod, Nat.mul_add, Nat.mod_mod, Nat.mod_mod, ← Nat.add_mod]
  have h2 : a * (b * c % p) % p = a * b % p * c % p := by rw [Nat.mul_mod_mod, Nat.mod_mul_mod, Nat.mul_assoc]
  have h3 : ((a % p + p - b % p) % p % p + b % p) % p = a % p := by
    have hb := Nat.mod_lt b hp
    rw [Nat.mod_mod, Nat.mod_add_mod, show a % p + p - b % p + b % p = a % p + p by omega, Nat.add_mod_right, Nat.mod_mod]
  simp only [h1, h2, h3, decide_true, Bool.and_self]
theorem new_le {p : Nat} : (if pr p = true then p else 0) ≤ p := by split <;> omega
theorem law_new {n : Nat} : (pr n && decide (fp (if pr n = true then n else 0) = n) || !pr n && decide (fp (if pr n = true then n else 0) = 2)) = true := by
  cases h : pr n with
  | true => have := (pr_iff.1 h).1.1; simp [fp_of (q := n) (by omega)]
  | false => simp [fp]
theorem tmod41 (e : Int) : -41 < e.tmod 41 ∧ e.tmod 41 < 41 := by
  have h1 := Int.tmod_lt_of_pos e (b := 41) (by omega)
  have h2 := Int.tmod_lt_of_pos (-e) (b := 41) (by omega)
  rw [Int.neg_tmod] at h2
  omega
end Go.Gf
namespace Go.Gf
theorem law_powers {p q a b i : Nat} {k : Int} (hp : Prime p) (hq : fp q = p) (hb : b = if k < 0 then inv (fp q) a else a) (hi : i = k.natAbs) :
    (true && true && decide (powZ (fp q) a k = b ^ i % fp q) && decide (powZ (fp q) a (p : Int) = a % p) && decide (powZ (fp q) a 0 = 1 % p)) = true := by
  rw [hq] at *
  subst hb hi
  have h2 : powZ p a (p : Int) = a % p := by unfold powZ; rw [if_neg (by omega), Int.natAbs_natCast]; exact fermat hp a
  have h1 : powZ p a k = (if k < 0 then inv p a else a) ^ k.natAbs % p := rfl
  have h3 : powZ p a 0 = 1 % p := by simp [powZ]
  rw [h1, h2, h3]
  simp only [decide_true, Bool.and_self]
end Go.Gf
