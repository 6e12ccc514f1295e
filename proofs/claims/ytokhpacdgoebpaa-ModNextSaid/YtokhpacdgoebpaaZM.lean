/- Inverses and powers by a modulus. No program here. -/
import Derived.Test.YtokhpacdgoebpaaZR
namespace Go.Nt
/-- what makes the greatest common divisor, as it is told -/
def xg (A B : Int) : Int := (cof A B 1 0).2 % ((B.natAbs : Int) / ((Nat.gcd A.natAbs B.natAbs : Nat) : Int))
theorem gcd_pos' {A B : Int} (h : B ≠ 0) : 0 < Nat.gcd A.natAbs B.natAbs := Nat.gcd_pos_of_pos_right _ (by omega)
theorem xg_step {A B : Int} (h : B ≠ 0) : (if (cof A B 1 0).1 ≠ 0 ∧ (((B.natAbs : Nat) : Int)).tmod (cof A B 1 0).1 = 0 then (((B.natAbs : Nat) : Int)).tdiv (cof A B 1 0).1 else 0) = (B.natAbs : Int) / ((Nat.gcd A.natAbs B.natAbs : Nat) : Int) := by
  have hg := gcd_pos' (A := A) h
  rw [(cof_all A B).1]
  have hd : B.natAbs % Nat.gcd A.natAbs B.natAbs = 0 := Nat.mod_eq_zero_of_dvd (Nat.gcd_dvd_right _ _)
  have h1 : (((B.natAbs : Nat) : Int)).tmod ((Nat.gcd A.natAbs B.natAbs : Nat) : Int) = 0 := by
    rw [← Int.ofNat_tmod, hd]; rfl
  rw [if_pos ⟨by omega, h1⟩, Int.tdiv_eq_ediv_of_nonneg (by omega)]
theorem step_pos {A B : Int} (h : B ≠ 0) : 0 < (B.natAbs : Int) / ((Nat.gcd A.natAbs B.natAbs : Nat) : Int) := by
  have hg := gcd_pos' (A := A) h
  rw [← Int.natCast_ediv]
  have : 0 < B.natAbs / Nat.gcd A.natAbs B.natAbs := Nat.div_pos (Nat.le_of_dvd (by omega) (Nat.gcd_dvd_right _ _)) hg
  omega
theorem step_le (A B : Int) : ((B.natAbs : Int) / ((Nat.gcd A.natAbs B.natAbs : Nat) : Int)).natAbs ≤ B.natAbs := by
  rw [← Int.natCast_ediv, Int.natAbs_natCast]; exact Nat.div_le_self _ _
theorem xg_le {A B : Int} (h : B ≠ 0) : (xg A B).natAbs ≤ B.natAbs := by
  have h1 := step_pos (A := A) h
  have h2 := step_le A B
  have h3 := Int.emod_nonneg (cof A B 1 0).2 (show (B.natAbs : Int) / ((Nat.gcd A.natAbs B.natAbs : Nat) : Int) ≠ 0 by omega)
  have h4 := Int.emod_lt_of_pos (cof A B 1 0).2 h1
  unfold xg; omega
def inv (A m : Int) : Int := xg A m % m
theorem inv_spec {A m : Int} (hm : 0 < m) (hg : Nat.gcd A.natAbs m.natAbs = 1) : 0 ≤ inv A m ∧ inv A m < m ∧ m ∣ A * inv A m - 1 := by
  refine ⟨Int.emod_nonneg _ (by omega), Int.emod_lt_of_pos _ hm, ?_⟩
  obtain ⟨h1, h2, _⟩ := cof_all A m
  rw [hg] at h1
  have e : xg A m = (cof A m 1 0).2 % m := by
    unfold xg; rw [hg]
    have : (m.natAbs : Int) / ((1 : Nat) : Int) = m := by rw [Int.natCast_one, Int.ediv_one]; omega
    rw [this]
  have e2 : inv A m = (cof A m 1 0).2 % m := by unfold inv; rw [e, Int.emod_emod_of_dvd _ (Int.dvd_refl m)]
  rw [e2]
  rw [h1] at h2
  obtain ⟨k, hk⟩ := h2
  have hq := Int.mul_ediv_add_emod (cof A m 1 0).2 m
  generalize (cof A m 1 0).2 = c at *
  refine ⟨-k - A * (c / m), ?_⟩
  have : c % m = c - m * (c / m) := by omega
  rw [this, Int.mul_sub, Int.mul_sub, Int.mul_neg, Int.mul_left_comm]
  have h3 : A * c = c * A := Int.mul_comm _ _
  have h4 : ((1 : Nat) : Int) = 1 := rfl
  omega
theorem no_inv {A m x : Int} (hg : Nat.gcd A.natAbs m.natAbs ≠ 1) : ¬ m ∣ A * x - 1 := by
  rintro h
  apply hg
  have h1 : ((Nat.gcd A.natAbs m.natAbs : Nat) : Int) ∣ A := Int.ofNat_dvd_left.2 (Nat.gcd_dvd_left _ _)
  have h2 : ((Nat.gcd A.natAbs m.natAbs : Nat) : Int) ∣ m := Int.ofNat_dvd_left.2 (Nat.gcd_dvd_right _ _)
  have h3 : ((Nat.gcd A.natAbs m.natAbs : Nat) : Int) ∣ 1 := by
    have a := Int.dvd_trans h2 h
    have b := Int.dvd_mul_of_dvd_left (c := x) h1
    have := Int.dvd_sub b a
    rwa [show A * x - (A * x - 1) = 1 by omega] at this
  exact Nat.dvd_one.1 (Int.ofNat_dvd_left.1 h3)
/-! ### powers -/
theorem emod_mul_emod' (x y m : Int) : (x % m) * (y % m) % m = x * y % m := (Int.mul_emod x y m).symm
theorem emod_mul_left (x y m : Int) : (x % m) * y % m = x * y % m := by rw [Int.mul_emod, Int.emod_emod_of_dvd _ (Int.dvd_refl m), ← Int.mul_emod]
theorem pow_bit (b m : Int) (n s : Nat) : (n / 2 ^ s % 2 = 1 → (((b ^ (n / 2 ^ (s + 1)) % m) * (b ^ (n / 2 ^ (s + 1)) % m)) % m * b) % m = b ^ (n / 2 ^ s) % m) ∧
    (n / 2 ^ s % 2 ≠ 1 → ((b ^ (n / 2 ^ (s + 1)) % m) * (b ^ (n / 2 ^ (s + 1)) % m)) % m = b ^ (n / 2 ^ s) % m) := by
  have es := bit_step n s
  constructor
  · intro h
    rw [h] at es
    rw [es, emod_mul_emod', emod_mul_left, Int.pow_succ, Nat.two_mul, Int.pow_add]
  · intro h
    have : n / 2 ^ s = 2 * (n / 2 ^ (s + 1)) := by omega
    rw [this, emod_mul_emod', Nat.two_mul, Int.pow_add]
theorem dig_bit (n i : Nat) : dig n (i / 64) / 2 ^ (i % 64) % 2 = n / 2 ^ i % 2 := by
  unfold dig
  rw [pow_split i, ← Nat.div_div_eq_div_mul]
  generalize n / W ^ (i / 64) = m
  have h64 : i % 64 < 64 := Nat.mod_lt _ (by decide)
  generalize i % 64 = r at *
  have h2 : W = 2 ^ r * 2 * 2 ^ (63 - r) := by
    rw [← Nat.pow_succ, ← Nat.pow_add, show r + 1 + (63 - r) = 64 by omega]
  rw [h2, ← Nat.mod_mul_right_div_self, ← Nat.mod_mul_right_div_self, Nat.mod_mul_right_mod]
theorem bit_high {xs : List Nat} {i : Nat} (h : Ok xs) (hi : xs.length ≤ i / 64) : val xs / 2 ^ i % 2 = 0 := by
  have h1 := val_lt h
  have h2 : W ^ xs.length ≤ 2 ^ i := by rw [W_pow]; exact Nat.pow_le_pow_right (by decide) (by omega)
  rw [Nat.div_eq_of_lt (Nat.lt_of_lt_of_le h1 h2)]
/-! ### Euclid's steps are few -/
theorem euclid_half {x y : Nat} (h : y ≤ x) (hy : 0 < y) : 2 * (y * (x % y)) ≤ x * y := by
  have h1 := Nat.mod_lt x hy
  have h2 := Nat.div_add_mod x y
  have h3 : 1 ≤ x / y := (Nat.one_le_div_iff hy).2 h
  have h4 : y + x % y ≤ x := by
    have := Nat.mul_le_mul_left y h3
    omega
  have h5 := Nat.mul_le_mul_right y h4
  rw [Nat.add_mul] at h5
  have h6 : x % y * y ≤ y * y := Nat.mul_le_mul_right _ (Nat.le_of_lt h1)
  rw [Nat.mul_comm y (x % y)]
  omega
structure Eu (n A B : Nat) (k x y : Nat) : Prop where
  g : Nat.gcd x y = Nat.gcd A B
  o : k = 0 ∨ y ≤ x
  p : x * y * 2 ^ k ≤ 2 ^ (n + n + 1)
  q : k = 0 → x * y ≤ 2 ^ (n + n)
  xl : x ≤ max A B
  yl : y ≤ max A B
theorem Eu.start {n A B : Nat} (ha : A < 2 ^ n) (hb : B < 2 ^ n) : Eu n A B 0 A B := by
  have h1 := Nat.mul_le_mul (Nat.le_of_lt ha) (Nat.le_of_lt hb)
  rw [← Nat.pow_add] at h1
  refine ⟨rfl, .inl rfl, ?_, fun _ => h1, Nat.le_max_left _ _, Nat.le_max_right _ _⟩
  rw [Nat.pow_zero, Nat.mul_one]
  exact Nat.le_trans h1 (Nat.pow_le_pow_right (by decide) (by omega))
theorem Eu.step {n A B k x y : Nat} (e : Eu n A B k x y) (hy : 0 < y) : Eu n A B (k + 1) y (x % y) := by
  refine ⟨by rw [← e.g, Nat.gcd_comm x y, Nat.gcd_rec y x, Nat.gcd_comm], .inr (Nat.le_of_lt (Nat.mod_lt _ hy)), ?_, fun h => absurd h (by omega), e.yl, Nat.le_trans (Nat.le_of_lt (Nat.mod_lt _ hy)) e.yl⟩
  rcases e.o with h | h
  · subst h
    have h1 : y * (x % y) ≤ x * y := by rw [Nat.mul_comm]; exact Nat.mul_le_mul_right _ (Nat.mod_le _ _)
    have h2 := e.q rfl
    have e1 : (2 : Nat) ^ (0 + 1) = 2 := by decide
    rw [e1, Nat.pow_succ]
    exact Nat.mul_le_mul_right _ (Nat.le_trans h1 h2)
  · have h1 := euclid_half h hy
    have h2 := e.p
    rw [Nat.pow_succ, Nat.mul_comm (2 ^ k) 2, ← Nat.mul_assoc, Nat.mul_comm _ 2]
    exact Nat.le_trans (Nat.mul_le_mul_right _ h1) h2
theorem Eu.few {n A B k x y : Nat} (e : Eu n A B k x y) (hk : n + n + 2 ≤ k) : y = 0 := by
  rcases Nat.eq_zero_or_pos y with h | h
  · exact h
  exfalso
  have hx : y ≤ x := by
    rcases e.o with h2 | h2
    · omega
    · exact h2
  have h1 : 1 ≤ x * y := Nat.mul_pos (by omega) h
  have h2 : 2 ^ (n + n + 1 + 1) ≤ 2 ^ k := Nat.pow_le_pow_right (by decide) (by omega)
  have h3 : 1 * 2 ^ k ≤ x * y * 2 ^ k := Nat.mul_le_mul_right _ h1
  have h4 := e.p
  rw [Nat.pow_succ] at h2
  have h6 : 0 < (2 : Nat) ^ (n + n + 1) := Nat.pow_pos (by decide)
  generalize (2 : Nat) ^ (n + n + 1) = q at *
  omega
theorem four_words {a : Nat} (h : (List.length (words a)) ≤ 4) : a < 2 ^ (64 * 4) := by rw [← W_pow]; exact lt_pow_of h
theorem gcd_ne1 {x : Nat} : ((sgn ((x : Int) - 1)) = 0) ↔ x = 1 := by rw [sgn_eq0]; omega
/-! ### the elements of a field -/
theorem of_word {z : Int} {p : Nat} (hp : 0 < p) (hl : p < 18446744073709551616) : (if (z % (p : Int)).natAbs < 18446744073709551616 then (z % (p : Int)).natAbs else 0) = (z % (p : Int)).toNat := by
  have h1 := Int.emod_nonneg z (show (p : Int) ≠ 0 by omega)
  have h2 := Int.emod_lt_of_pos z (show 0 < (p : Int) by omega)
  rw [if_pos (by omega)]; omega
theorem toNat_lt {z : Int} {p : Nat} (hp : 0 < p) : (z % (p : Int)).toNat < p := by
  have h1 := Int.emod_nonneg z (show (p : Int) ≠ 0 by omega)
  have h2 := Int.emod_lt_of_pos z (show 0 < (p : Int) by omega)
  omega
theorem of_cong {z : Int} {p : Nat} (hp : 0 < p) : (p : Int) ∣ z - (((z % (p : Int)).toNat : Nat) : Int) := by
  have h1 := Int.emod_nonneg z (show (p : Int) ≠ 0 by omega)
  rw [Int.toNat_of_nonneg h1]
  exact ⟨z / p, by have := Int.mul_ediv_add_emod z p; omega⟩
theorem of_add (x y : Int) {p : Nat} (hp : 0 < p) : ((x + y) % (p : Int)).toNat = ((x % (p : Int)).toNat % p + (y % (p : Int)).toNat % p) % p := by
  have hx := Int.emod_nonneg x (show (p : Int) ≠ 0 by omega)
  have hy := Int.emod_nonneg y (show (p : Int) ≠ 0 by omega)
  have hs := Int.emod_nonneg (x + y) (show (p : Int) ≠ 0 by omega)
  rw [Nat.mod_eq_of_lt (toNat_lt hp), Nat.mod_eq_of_lt (toNat_lt hp)]
  apply Int.ofNat_inj.1
  rw [Int.natCast_emod, Int.natCast_add, Int.toNat_of_nonneg hx, Int.toNat_of_nonneg hy, Int.toNat_of_nonneg hs, ← Int.add_emod]
theorem of_mul (x y : Int) {p : Nat} (hp : 0 < p) : ((x * y) % (p : Int)).toNat = (x % (p : Int)).toNat * (y % (p : Int)).toNat % p := by
  have hx := Int.emod_nonneg x (show (p : Int) ≠ 0 by omega)
  have hy := Int.emod_nonneg y (show (p : Int) ≠ 0 by omega)
  have hs := Int.emod_nonneg (x * y) (show (p : Int) ≠ 0 by omega)
  apply Int.ofNat_inj.1
  rw [Int.natCast_emod, Int.natCast_mul, Int.toNat_of_nonneg hx, Int.toNat_of_nonneg hy, Int.toNat_of_nonneg hs, ← Int.mul_emod]
theorem of_neg (x : Int) {p : Nat} (hp : 0 < p) : ((-x) % (p : Int)).toNat = (p - (x % (p : Int)).toNat % p) % p := by
  have hx := Int.emod_nonneg x (show (p : Int) ≠ 0 by omega)
  have hs := Int.emod_nonneg (-x) (show (p : Int) ≠ 0 by omega)
  have hl := toNat_lt (z := x) hp
  rw [Nat.mod_eq_of_lt hl]
  apply Int.ofNat_inj.1
  rw [Int.natCast_emod, Int.natCast_sub (Nat.le_of_lt hl), Int.toNat_of_nonneg hx, Int.toNat_of_nonneg hs]
  have := Int.sub_emod (p : Int) x p
  rw [Int.emod_self, Int.zero_sub] at this
  have e1 : ((p : Int) - x) % p = (-x) % p := by rw [show (p : Int) - x = -x + p by omega, Int.add_emod_right]
  have e2 : ((p : Int) - x % p) % p = (-(x % p)) % p := by rw [show (p : Int) - x % p = -(x % p) + p by omega, Int.add_emod_right]
  rw [e2, ← this, e1]
end Go.Nt
