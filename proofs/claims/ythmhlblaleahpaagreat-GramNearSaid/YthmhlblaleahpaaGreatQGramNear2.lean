/- Rules and contracts, part 2 of 6. -/
import Derived.Test.YthmhlblaleahpaaGreatQGramNear1
import Derived.Laws.MathBits
namespace Go.Nt
abbrev W : Nat := 18446744073709551616
def val : List Nat → Nat
 | [] => 0
 | x :: xs => x + W * val xs
def zI : Nat → Nat → List Nat
 | 0, _ => []
 | k + 1, n => n % W :: zI k (n / W)
def zA (n : Nat) : List Nat := if h : n = 0 then [] else n % W :: zA (n / W)
termination_by n
decreasing_by exact Nat.div_lt_self (Nat.pos_of_ne_zero h) (by decide)
def Ok (xs : List Nat) : Prop := ∀ x ∈ xs, x < W
theorem zF : zA 0 = [] := by unfold zA; simp
theorem xw {n : Nat} (h : n ≠ 0) : zA n = n % W :: zA (n / W) := by rw [zA]; simp [h]
theorem fB : (List.length (zA 0)) = 0 := by rw [zF]; rfl
theorem vj {n : Nat} (h : n ≠ 0) : (List.length (zA n)) = (List.length (zA (n / W))) + 1 := by rw [xw h]; rfl
theorem zC (n : Nat) : val (zA n) = n := by
  induction n using Nat.strongRecOn with
  | _ n ih =>
    by_cases h : n = 0
    · subst h; rw [zF]; rfl
    · rw [xw h, val, ih _ (Nat.div_lt_self (Nat.pos_of_ne_zero h) (by decide))]
      have := Nat.mod_add_div n W; omega
theorem jy (n : Nat) : Ok (zA n) := by
  induction n using Nat.strongRecOn with
  | _ n ih =>
    by_cases h : n = 0
    · subst h; rw [zF]; intro x hx; simp at hx
    · rw [xw h]; intro x hx
      rcases List.mem_cons.1 hx with rfl | hx
      · exact Nat.mod_lt _ (by decide)
      · exact ih _ (Nat.div_lt_self (Nat.pos_of_ne_zero h) (by decide)) x hx
theorem zV : ∀ (k n : Nat), (zI k n).length = k
 | 0, _ => rfl
 | k + 1, n => by simp [zI, zV k]
theorem vY : ∀ (k n : Nat), Ok (zI k n)
  | 0, _ => fun x hx => by simp [zI] at hx
  | k + 1, n => fun x hx => by
    rcases List.mem_cons.1 hx with rfl | hx
    · exact Nat.mod_lt _ (by decide)
    · exact vY k _ x hx
theorem xD : ∀ (k n : Nat), val (zI k n) = n % W ^ k
  | 0, n => by simp [zI, val, Nat.mod_one]
  | k + 1, n => by
    rw [zI, val, xD k, Nat.pow_succ, Nat.mul_comm (W ^ k) W, Nat.mod_mul]
theorem val_lt {xs : List Nat} (h : Ok xs) : val xs < W ^ xs.length := by
  induction xs with
  | nil => simp [val]
  | cons x xs ih =>
    have h1 := h x (by simp)
    have h2 := ih (fun y hy => h y (by simp [hy]))
    rw [val, List.length_cons, Nat.pow_succ]
    have : W * val xs + W ≤ W * W ^ xs.length := by rw [← Nat.mul_succ]; exact Nat.mul_le_mul_left _ h2
    rw [Nat.mul_comm (W ^ xs.length)]; omega
theorem ve (xs ys : List Nat) : val (xs ++ ys) = val xs + W ^ xs.length * val ys := by
 induction xs with
 | nil => simp [val]
 | cons x xs ih => rw [List.cons_append, val, ih, val, List.length_cons, Nat.pow_succ]; grind
theorem dx {xs ys : List Nat} (h : Ok xs) (k : Ok ys) : Ok (xs ++ ys) := fun x hx => by
 rcases List.mem_append.1 hx with h1 | h1
 ·exact h x h1
 ·exact k x h1
theorem val_inj : ∀ {xs ys : List Nat}, Ok xs → Ok ys → xs.length = ys.length → val xs = val ys → xs = ys
  | [], [], _, _, _, _ => rfl
  | x :: xs, y :: ys, h1, h2, hl, hv => by
    have hx := h1 x (by simp)
    have hy := h2 y (by simp)
    simp only [val] at hv
    have e : x = y := by
      have := congrArg (· % W) hv
      simp only [Nat.add_mul_mod_self_left] at this
      rwa [Nat.mod_eq_of_lt hx, Nat.mod_eq_of_lt hy] at this
    subst e
    have e2 : val xs = val ys := Nat.eq_of_mul_eq_mul_left (by decide : 0 < W) (by omega)
    rw [val_inj (fun z hz => h1 z (by simp [hz])) (fun z hz => h2 z (by simp [hz])) (by simpa using hl) e2]
theorem xf {xs : List Nat} {k n : Nat} (h : Ok xs) (hl : xs.length = k) (hv : val xs = n % W ^ k) : xs = zI k n :=
 val_inj h (vY _ _) (by rw [hl, zV]) (by rw [hv, xD])
theorem qV (n : Nat) : n < W ^ (List.length (zA n)) := by have := val_lt (jy n); rwa [zC] at this
theorem wq {n k : Nat} (h : n < W ^ k) : (List.length (zA n)) ≤ k := by
  induction k generalizing n with
  | zero => have : n = 0 := by simpa using h
            subst this; rw [fB]; exact Nat.le_refl _
  | succ k ih =>
    by_cases h0 : n = 0
    · subst h0; rw [fB]; omega
    · rw [vj h0]
      have : n / W < W ^ k := by rw [Nat.div_lt_iff_lt_mul (by decide)]; rwa [Nat.pow_succ] at h
      have := ih this; omega
theorem ze {m n : Nat} (h : m ≤ n) : (List.length (zA m)) ≤ (List.length (zA n)) := wq (Nat.lt_of_le_of_lt h (qV n))
theorem cj {n : Nat} (h : n ≠ 0) : W ^ ((List.length (zA n)) - 1) ≤ n := by
 apply Classical.byContradiction; intro hc
 have := wq (Nat.lt_of_not_le hc)
 have := vj h; omega
theorem aj {xs : List Nat} (h : Ok xs) : (List.length (zA (val xs))) ≤ xs.length := wq (val_lt h)
def dig (n i : Nat) : Nat := n / W ^ i % W
theorem qR (n i : Nat) : dig n i < W := Nat.mod_lt _ (by decide)
theorem zZ (n i : Nat) : (zA n).getD i 0 = dig n i := by
  induction i generalizing n with
  | zero =>
    by_cases h : n = 0
    · subst h; rw [zF]; simp [dig]
    · rw [xw h]; simp [dig]
  | succ i ih =>
    by_cases h : n = 0
    · subst h; rw [zF]; simp [dig]
    · rw [xw h, List.getD_cons_succ, ih, dig, dig, Nat.div_div_eq_div_mul, Nat.pow_succ, Nat.mul_comm W]
theorem getD_val {xs : List Nat} (h : Ok xs) (i : Nat) : xs.getD i 0 = dig (val xs) i := by
  induction xs generalizing i with
  | nil => simp [dig, val]
  | cons x xs ih =>
    have hx := h x (by simp)
    cases i with
    | zero => simp [dig, val, Nat.mod_eq_of_lt hx]
    | succ i =>
      rw [List.getD_cons_succ, ih (fun y hy => h y (by simp [hy])), dig, dig, val, Nat.pow_succ, Nat.mul_comm (W ^ i), ← Nat.div_div_eq_div_mul]
      rw [Nat.add_mul_div_left _ _ (by decide), Nat.div_eq_of_lt hx, Nat.zero_add]
theorem jz (k n : Nat) : zI (k + 1) n = zI k n ++ [dig n k] := by
  induction k generalizing n with
  | zero => simp [zI, dig]
  | succ k ih =>
    rw [zI, ih, zI, List.cons_append, dig, dig, Nat.div_div_eq_div_mul, Nat.pow_succ, Nat.mul_comm W]
theorem jS (n k : Nat) : n % W ^ (k + 1) = n % W ^ k + W ^ k * dig n k := by
 rw [Nat.pow_succ, Nat.mod_mul, dig]
theorem aE (n : Nat) : zA n = zI ((List.length (zA n))) n := xf (jy n) rfl (by rw [zC, Nat.mod_eq_of_lt (qV n)])
theorem aR {n : Nat} (h : n ≠ 0) : dig n ((List.length (zA n)) - 1) ≠ 0 := by
 intro h0
 have h1 := cj h
 have h2 := qV n
 have e : (List.length (zA n)) - 1 + 1 = (List.length (zA n)) := by have := vj h; omega
 have h3 : n / W ^ ((List.length (zA n)) - 1) < W := by rw [Nat.div_lt_iff_lt_mul (Nat.pow_pos (by decide)), Nat.mul_comm, ← Nat.pow_succ]; rwa [show ((List.length (zA n)) - 1).succ = (List.length (zA n)) from e]
 rw [dig, Nat.mod_eq_of_lt h3] at h0
 have := (Nat.div_eq_zero_iff.1 h0).resolve_left (Nat.ne_of_gt (Nat.pow_pos (by decide)))
 omega
theorem jY {n i : Nat} (h : (List.length (zA n)) ≤ i) : dig n i = 0 := by
 rw [dig, Nat.div_eq_of_lt (Nat.lt_of_lt_of_le (qV n) (Nat.pow_le_pow_right (by decide) h))]; rfl
theorem dT {xs : List Nat} {k : Nat} (h : Ok xs) (hk : k ≤ xs.length) (h0 : ∀ i, k ≤ i → xs.getD i 0 = 0) (ht : k = 0 ∨ xs.getD (k - 1) 0 ≠ 0) : xs.take k = zA (val xs) := by
  have hv : val xs < W ^ k := by
    clear ht
    induction xs generalizing k with
    | nil => simp [val]; exact Nat.pow_pos (by decide)
    | cons x xs ih =>
      cases k with
      | zero =>
        have hx := h0 0 (Nat.le_refl _)
        simp at hx
        have := ih (fun y hy => h y (by simp [hy])) (Nat.zero_le _) (fun i _ => by simpa using h0 (i + 1) (by omega))
        simp at this
        simp [val, hx, this]
      | succ k =>
        have := ih (fun y hy => h y (by simp [hy])) (by simpa using hk) (fun i hi => by simpa using h0 (i + 1) (by omega))
        have hx := h x (by simp)
        rw [val, Nat.pow_succ, Nat.mul_comm (W ^ k)]
        have h3 : W * val xs + W ≤ W * W ^ k := by rw [← Nat.mul_succ]; exact Nat.mul_le_mul_left _ this
        omega
  have hn : (List.length (zA (val xs))) = k := by
    have h1 := wq hv
    rcases ht with rfl | ht
    · omega
    · rcases Nat.lt_or_ge ((List.length (zA (val xs)))) k with h2 | h2
      · exfalso; apply ht; rw [getD_val h]; exact jY (by omega)
      · omega
  have hok : Ok (xs.take k) := fun x hx => h x (List.mem_of_mem_take hx)
  have htv : val (xs.take k) = val xs := by
    have e := ve (xs.take k) (xs.drop k)
    rw [List.take_append_drop] at e
    have hlen : (xs.take k).length = k := by simp; omega
    rw [hlen] at e
    have hd : val (xs.drop k) = 0 := by
      rcases Nat.eq_zero_or_pos (val (xs.drop k)) with h1 | h1
      · exact h1
      · have := Nat.le_mul_of_pos_right (W ^ k) h1; omega
    rw [hd] at e; omega
  rw [aE, hn]
  exact xf hok (by simp; omega) (by rw [htv, Nat.mod_eq_of_lt hv])
theorem ay {n : Nat} (h : n < W) : zA n = if n = 0 then [] else [n] := by
 by_cases h0 : n = 0
 ·subst h0; rw [zF]; rfl
 ·rw [if_neg h0, xw h0, Nat.mod_eq_of_lt h, Nat.div_eq_of_lt h, zF]
theorem bI {n : Nat} (h : (List.length (zA n)) ≤ 1) : n < W := by
 have := qV n
 have h2 : W ^ (List.length (zA n)) ≤ W ^ 1 := Nat.pow_le_pow_right (by decide) h
 simp at h2; omega
theorem xK (k : Nat) : val (List.replicate k 0) = 0 := by
 induction k with
 | zero => rfl
 | succ k ih => rw [List.replicate_succ, val, ih]; rfl
def cmpN (m n : Nat) : Int := if m < n then -1 else if n < m then 1 else 0
end Go.Nt
namespace Go.Nt
theorem mul32 {a b : Nat} (ha : a < 4294967296) (hb : b < 4294967296) : a * b ≤ 18446744065119617025 := by
 have : a * b ≤ 4294967295 * 4294967295 := Nat.mul_le_mul (by omega) (by omega)
 omega
theorem mul64_facts {x y : Nat} (hx : x < 18446744073709551616) (hy : y < 18446744073709551616) :
  x % 2 ^ 32 * (y % 2 ^ 32) ≤ 18446744065119617025 ∧ x / 2 ^ 32 * (y % 2 ^ 32) ≤ 18446744065119617025 ∧ x % 2 ^ 32 * (y / 2 ^ 32) ≤ 18446744065119617025 ∧ x / 2 ^ 32 * (y / 2 ^ 32) ≤ 18446744065119617025 :=
 ⟨mul32 (by omega) (by omega), mul32 (by omega) (by omega), mul32 (by omega) (by omega), mul32 (by omega) (by omega)⟩
theorem mul64_hi (x y : Nat) : x / 2 ^ 32 * (y / 2 ^ 32) + (x / 2 ^ 32 * (y % 2 ^ 32) + x % 2 ^ 32 * (y % 2 ^ 32) / 2 ^ 32) / 2 ^ 32 +
  ((x / 2 ^ 32 * (y % 2 ^ 32) + x % 2 ^ 32 * (y % 2 ^ 32) / 2 ^ 32) % 2 ^ 32 + x % 2 ^ 32 * (y / 2 ^ 32)) / 2 ^ 32 = x * y / 18446744073709551616 := by
 have hx : x = x % 2 ^ 32 + 4294967296 * (x / 2 ^ 32) := by omega
 have hy : y = y % 2 ^ 32 + 4294967296 * (y / 2 ^ 32) := by omega
 generalize x / 2 ^ 32 = x1 at *
 generalize y / 2 ^ 32 = y1 at *
 generalize x % 2 ^ 32 = x0 at *
 generalize y % 2 ^ 32 = y0 at *
 have e : x * y = x0 * y0 + 4294967296 * (x1 * y0 + x0 * y1) + 18446744073709551616 * (x1 * y1) := by rw [hx, hy]; grind
 rw [e]
 generalize x0 * y0 = p at *
 generalize x1 * y0 = q at *
 generalize x0 * y1 = r at *
 generalize x1 * y1 = s at *
 omega
theorem cmp_start {m n : Nat} (h : (List.length (zA m)) = (List.length (zA n))) : m / W ^ (List.length (zA m)) = n / W ^ (List.length (zA m)) := by
 rw [Nat.div_eq_of_lt (qV m), h, Nat.div_eq_of_lt (qV n)]
theorem qd (n k : Nat) (hk : 0 < k) : n / W ^ (k - 1) = W * (n / W ^ k) + dig n (k - 1) := by
 have e : W ^ k = W ^ (k - 1) * W := by rw [← Nat.pow_succ]; congr 1; omega
 rw [e, ← Nat.div_div_eq_div_mul, dig]
 exact (Nat.div_add_mod _ _).symm
theorem cmp_step {m n k : Nat} (hk : 0 < k) (h : m / W ^ k = n / W ^ k) (hd : (zA m).getD (k - 1) 0 = (zA n).getD (k - 1) 0) : m / W ^ (k - 1) = n / W ^ (k - 1) := by
 rw [zZ, zZ] at hd
 rw [qd m k hk, qd n k hk, h, hd]
theorem eD {m n k : Nat} (h : m / W ^ k < n / W ^ k) : m < n := by
 apply Classical.byContradiction; intro hc
 have := Nat.div_le_div_right (c := W ^ k) (Nat.le_of_not_lt hc); omega
theorem cmp_lt {m n k : Nat} (hk : 0 < k) (h : m / W ^ k = n / W ^ k) (hd : (zA m).getD (k - 1) 0 < (zA n).getD (k - 1) 0) : -1 = cmpN m n := by
 rw [zZ, zZ] at hd
 have : m < n := eD (k := k - 1) (by rw [qd m k hk, qd n k hk, h]; omega)
 unfold cmpN; rw [if_pos this]
theorem cmp_gt {m n k : Nat} (hk : 0 < k) (h : m / W ^ k = n / W ^ k) (hd : (zA n).getD (k - 1) 0 < (zA m).getD (k - 1) 0) : 1 = cmpN m n := by
 rw [zZ, zZ] at hd
 have : n < m := eD (k := k - 1) (by rw [qd m k hk, qd n k hk, h]; omega)
 unfold cmpN; rw [if_neg (by omega), if_pos this]
theorem cmp_eq {m n k : Nat} (h : m / W ^ k = n / W ^ k) (hk : k = 0) : 0 = cmpN m n := by
 subst hk; simp at h; subst h; simp [cmpN]
theorem lt_of_nw {m n : Nat} (h : (List.length (zA m)) < (List.length (zA n))) : m < n := by
 apply Classical.byContradiction; intro hc
 have := ze (Nat.le_of_not_lt hc); omega
theorem cmp_len_lt {m n : Nat} (h : (List.length (zA m)) < (List.length (zA n))) : -1 = cmpN m n := by unfold cmpN; rw [if_pos (lt_of_nw h)]
theorem cmp_len_gt {m n : Nat} (h : (List.length (zA n)) < (List.length (zA m))) : 1 = cmpN m n := by have := lt_of_nw h; unfold cmpN; rw [if_neg (by omega), if_pos this]
end Go.Nt
namespace Go.Nt
def qa (N i m : Nat) : List Nat := zI i N ++ List.replicate (m - i) 0
theorem wt (N m : Nat) : List.replicate m 0 = qa N 0 m := rfl
theorem wQ {N i m : Nat} (h : i ≤ m) : (qa N i m).length = m := by simp [qa, zV]; omega
theorem cC (N m : Nat) : qa N m m = zI m N := by simp [qa]
theorem jJ {N i m d : Nat} (h : i < m) (hd : d = dig N i) : (qa N i m).set i d = qa N (i + 1) m := by
 subst hd
 unfold qa
 rw [List.set_append_right _ _ (by rw [zV]; exact Nat.le_refl _), zV, Nat.sub_self, jz]
 have : m - i = (m - (i + 1)) + 1 := by omega
 rw [this, List.replicate_succ, List.set_cons_zero]
 simp
theorem qN {N k : Nat} (h : N < W ^ k) : zA (val (zI k N)) = zA N := by rw [xD, Nat.mod_eq_of_lt h]
theorem zW (k : Nat) : 0 < W ^ k := Nat.pow_pos (by decide)
theorem wG {a b : Nat} (h : a ≤ b) : W ^ a ≤ W ^ b := Nat.pow_le_pow_right (by decide) h
theorem xd {n k : Nat} (h : (List.length (zA n)) ≤ k) : n < W ^ k := Nat.lt_of_lt_of_le (qV n) (wG h)
def car (p q i : Nat) : Nat := (p % W ^ i + q % W ^ i) / W ^ i
theorem car_zero (p q : Nat) : 0 = car p q 0 := by simp [car, Nat.mod_one]
theorem car_le (p q i : Nat) : car p q i ≤ 1 := by
 have h1 := Nat.mod_lt p (zW i)
 have h2 := Nat.mod_lt q (zW i)
 have : car p q i < 2 := by unfold car; rw [Nat.div_lt_iff_lt_mul (zW i)]; omega
 omega
theorem add_eq (p q i : Nat) : (p + q) / W ^ i = p / W ^ i + q / W ^ i + car p q i := by
 have h1 := Nat.mod_add_div p (W ^ i)
 have h2 := Nat.mod_add_div q (W ^ i)
 have e : p + q = (p % W ^ i + q % W ^ i) + W ^ i * (p / W ^ i + q / W ^ i) := by rw [Nat.mul_add]; omega
 rw [e, Nat.add_mul_div_left _ _ (zW i)]
 unfold car; omega
theorem ql (n i : Nat) : n / W ^ i = W * (n / W ^ (i + 1)) + dig n i := by
 have := qd n (i + 1) (by omega); simpa using this
theorem add_dig (p q i : Nat) : (dig p i + dig q i + car p q i) % W = dig (p + q) i := by
 rw [show dig (p + q) i = (p + q) / W ^ i % W from rfl, add_eq]
 unfold dig
 generalize p / W ^ i = a
 generalize q / W ^ i = b
 generalize car p q i = c
 unfold W; omega
theorem add_car (p q i : Nat) : (dig p i + dig q i + car p q i) / W = car p q (i + 1) := by
 have h1 := add_eq p q i
 have h2 := add_eq p q (i + 1)
 have h3 := ql p i
 have h4 := ql q i
 have h5 := ql (p + q) i
 have h6 := add_dig p q i
 generalize car p q i = c at *
 generalize car p q (i + 1) = c' at *
 generalize p / W ^ (i + 1) = a' at *
 generalize q / W ^ (i + 1) = b' at *
 generalize (p + q) / W ^ (i + 1) = s' at *
 generalize p / W ^ i = a at *
 generalize q / W ^ i = b at *
 generalize (p + q) / W ^ i = s at *
 unfold W at *; omega
theorem add_top {p q k : Nat} (hp : p < W ^ k) (hq : q < W ^ k) : car p q k = dig (p + q) k := by
 have h := add_eq p q k
 rw [Nat.div_eq_of_lt hp, Nat.div_eq_of_lt hq] at h
 have := car_le p q k
 unfold dig; rw [h]; simp only [Nat.zero_add]; rw [Nat.mod_eq_of_lt (Nat.lt_of_le_of_lt this (by decide))]
theorem add_lt {p q k : Nat} (hp : p < W ^ k) (hq : q < W ^ k) : p + q < W ^ (k + 1) := by
 rw [Nat.pow_succ]; generalize W ^ k = w at *; unfold W; omega
def bor (p q i : Nat) : Nat := if p % W ^ i < q % W ^ i then 1 else 0
theorem bor_zero (p q : Nat) : 0 = bor p q 0 := by simp [bor, Nat.mod_one]
theorem bor_le (p q i : Nat) : bor p q i ≤ 1 := by unfold bor; split <;> omega
theorem aV (p q i : Nat) : (if dig p i < dig q i + bor p q i then 1 else 0) = bor p q (i + 1) := by
 have h1 := jS p i
 have h2 := jS q i
 have h3 := Nat.mod_lt p (zW i)
 have h4 := Nat.mod_lt q (zW i)
 unfold bor
 rw [h1, h2]
 generalize p % W ^ i = a at *
 generalize q % W ^ i = b at *
 generalize dig p i = x at *
 generalize dig q i = y at *
 generalize W ^ i = w at *
 rcases Nat.lt_trichotomy x y with h | h | h
 ·have : w * x + w ≤ w * y := by rw [← Nat.mul_succ]; exact Nat.mul_le_mul_left _ h
  rw [if_pos (by omega), if_pos (by omega)]
 ·subst h
  by_cases hab : a < b
  ·rw [if_pos hab, if_pos (by omega), if_pos (by omega)]
  ·rw [if_neg hab, if_neg (by omega), if_neg (by omega)]
 ·have : w * y + w ≤ w * x := by rw [← Nat.mul_succ]; exact Nat.mul_le_mul_left _ h
  rw [if_neg (by split <;> omega), if_neg (by omega)]
theorem sub_eq {p q : Nat} (h : q ≤ p) (i : Nat) : (p - q) / W ^ i + q / W ^ i + bor p q i = p / W ^ i := by
 have h1 := Nat.mod_add_div p (W ^ i)
 have h2 := Nat.mod_add_div q (W ^ i)
 have h3 := Nat.mod_lt p (zW i)
 have h4 := Nat.mod_lt q (zW i)
 have h5 := Nat.mod_add_div (p - q) (W ^ i)
 have h6 := Nat.mod_lt (p - q) (zW i)
 unfold bor
 generalize p % W ^ i = a at *
 generalize q % W ^ i = b at *
 generalize (p - q) % W ^ i = c at *
 generalize p / W ^ i = x at *
 generalize q / W ^ i = y at *
 generalize (p - q) / W ^ i = z at *
 have hw := zW i
 generalize W ^ i = w at *
 have e : c + w * z + (b + w * y) = a + w * x := by omega
 have e2 : c + b + w * (z + y) = a + w * x := by rw [Nat.mul_add]; omega
 split
 ·have hz : w * (z + y) < w * x := by
   apply Classical.byContradiction; intro hc
   have : c + b ≤ a := by omega
   omega
  have h7 : z + y < x := Nat.lt_of_mul_lt_mul_left hz
  have h8 : x ≤ z + y + 1 := by
   apply Classical.byContradiction; intro hc
   have : w * (z + y + 2) ≤ w * x := Nat.mul_le_mul_left _ (by omega)
   rw [Nat.mul_add] at this; omega
  omega
 ·have h7 : z + y < x + 1 := by
   apply Nat.lt_of_mul_lt_mul_left (a := w); rw [Nat.mul_add w x]; omega
  have h8 : x < z + y + 1 := by
   apply Classical.byContradiction; intro hc
   have : w * (z + y + 1) ≤ w * x := Nat.mul_le_mul_left _ (by omega)
   rw [Nat.mul_add w (z + y)] at this
   omega
  omega
theorem sub_dig {p q : Nat} (h : q ≤ p) (i : Nat) : (dig p i + W - dig q i - bor p q i) % W = dig (p - q) i := by
 have h1 := sub_eq h i
 have h2 := sub_eq h (i + 1)
 have h3 := ql p i
 have h4 := ql q i
 have h5 := ql (p - q) i
 have h6 := aV p q i
 have h7 := qR (p - q) i
 have h8 := qR p i
 have h9 := qR q i
 have := bor_le p q i
 generalize p / W ^ (i + 1) = a' at *
 generalize q / W ^ (i + 1) = b' at *
 generalize (p - q) / W ^ (i + 1) = s' at *
 generalize p / W ^ i = a at *
 generalize q / W ^ i = b at *
 generalize (p - q) / W ^ i = s at *
 generalize bor p q i = e at *
 generalize bor p q (i + 1) = e' at *
 unfold W at *
 split at h6 <;> omega
theorem fz_wpart {N i m d k : Nat} (hk : i + 1 = m) (hi : k = i) (hd : d = dig N i) : (((qa N i m).set k d).drop 0).take m = zI m N := by
 subst hi
 rw [jJ (by omega) hd, hk, cC, List.drop_zero]
 exact List.take_of_length_le (by rw [zV]; exact Nat.le_refl _)
theorem eJ {N i m : Nat} (hk : i = m) : ((qa N i m).drop 0).take m = zI m N := by
 subst hk
 rw [cC, List.drop_zero]
 exact List.take_of_length_le (by rw [zV]; exact Nat.le_refl _)
theorem cmpN_neg {m n : Nat} : cmpN m n < 0 ↔ m < n := by unfold cmpN; split <;> (try split) <;> omega
theorem sub_lt' {p q k : Nat} (h : p < W ^ k) : p - q < W ^ k := by omega
def mix (k N' N m : Nat) : List Nat := zI k N' ++ zI (m - k) (N / W ^ k)
theorem vS {k N' N m : Nat} (h : k ≤ m) : (mix k N' N m).length = m := by simp [mix, zV]; omega
theorem vH : ∀ {k N j : Nat}, j < k → (zI k N).getD j 0 = dig N j
  | k + 1, N, 0, _ => by simp [zI, dig]
  | k + 1, N, j + 1, h => by
    rw [zI, List.getD_cons_succ, vH (by omega), dig, dig, Nat.div_div_eq_div_mul, Nat.pow_succ, Nat.mul_comm W]
theorem mix_getD {k N' N m j : Nat} (h : k ≤ j) (hj : j < m) : (mix k N' N m).getD j 0 = dig N j := by
 unfold mix
 rw [List.getD_eq_getElem?_getD, List.getElem?_append_right (by rw [zV]; exact h), zV, ← List.getD_eq_getElem?_getD, vH (by omega), dig, dig,
  Nat.div_div_eq_div_mul, ← Nat.pow_add]
 congr 3; omega
theorem bZ {k N' N m d j : Nat} (h : k < m) (hj : j = k) (hd : d = dig N' k) : (mix k N' N m).set j d = mix (k + 1) N' N m := by
 subst hd hj
 unfold mix
 rw [List.set_append_right _ _ (by rw [zV]; exact Nat.le_refl _), zV, Nat.sub_self, jz]
 have : m - j = (m - (j + 1)) + 1 := by omega
 rw [this, zI, List.set_cons_zero, Nat.div_div_eq_div_mul, ← Nat.pow_succ]
 simp
theorem wordsN_mod : ∀ {k N N' : Nat}, N % W ^ k = N' % W ^ k → zI k N = zI k N'
 | k, N, N', h => xf (vY _ _) (zV _ _) (by rw [xD, h])
theorem cg {k N m : Nat} (h : k ≤ m) : mix k N N m = zI m N := by
 refine xf ?_ (vS h) ?_
 ·exact dx (vY _ _) (vY _ _)
 ·unfold mix
  rw [ve, xD, xD, zV]
  obtain ⟨j, rfl⟩ : ∃ j, m = k + j := ⟨m - k, by omega⟩
  rw [Nat.add_sub_cancel_left, Nat.pow_add, Nat.mod_mul]
theorem jT {k N' N m : Nat} (h : k ≤ m) (he : N' % W ^ k = N % W ^ k) : zI m N = mix k N' N m := by
 rw [← cg h]; unfold mix; rw [wordsN_mod he]
theorem ba {k N' N m : Nat} (h : k ≤ m) (he : N / W ^ k = N' / W ^ k) : mix k N' N m = zI m N' := by
 rw [← cg h]; unfold mix; rw [he]
def mcar (n A x i : Nat) : Nat := (n % W ^ i + A % W ^ i * x) / W ^ i
theorem eB (n A x : Nat) : 0 = mcar n A x 0 := by simp [mcar, Nat.mod_one]
theorem aK (n A x i : Nat) : mcar n A x i ≤ x := by
 have h1 := Nat.mod_lt n (zW i)
 have h2 : A % W ^ i + 1 ≤ W ^ i := Nat.mod_lt A (zW i)
 have h3 := Nat.mul_le_mul_right x h2
 rw [Nat.succ_mul] at h3
 have : mcar n A x i < x + 1 := by unfold mcar; rw [Nat.div_lt_iff_lt_mul (zW i), Nat.add_mul, Nat.one_mul, Nat.mul_comm x]; omega
 omega
theorem mul_sum (n A x i : Nat) : (n + A * x) / W ^ i = n / W ^ i + A / W ^ i * x + mcar n A x i := by
 have h1 := Nat.mod_add_div n (W ^ i)
 have h2 := Nat.mod_add_div A (W ^ i)
 have e : n + A * x = (n % W ^ i + A % W ^ i * x) + W ^ i * (n / W ^ i + A / W ^ i * x) := by
  have : A * x = A % W ^ i * x + W ^ i * (A / W ^ i * x) := by
   rw [← Nat.mul_assoc, ← Nat.add_mul, h2]
  rw [Nat.mul_add, this]; omega
 rw [e, Nat.add_mul_div_left _ _ (zW i)]
 unfold mcar; omega
theorem bD (n A x i : Nat) : dig n i + dig A i * x + mcar n A x i = dig (n + A * x) i + W * mcar n A x (i + 1) := by
 have h1 := mul_sum n A x i
 have h2 := mul_sum n A x (i + 1)
 have h3 := ql n i
 have h4 := ql A i
 have h5 := ql (n + A * x) i
 rw [h4, Nat.add_mul, Nat.mul_assoc] at h1
 generalize A / W ^ (i + 1) * x = a' at *
 generalize dig A i * x = e at *
 generalize (n + A * x) / W ^ (i + 1) = s' at *
 generalize (n + A * x) / W ^ i = s at *
 generalize n / W ^ (i + 1) = b' at *
 generalize n / W ^ i = b at *
 generalize dig (n + A * x) i = t at *
 generalize mcar n A x (i + 1) = u at *
 generalize mcar n A x i = v at *
 subst h2 h3
 rw [h1, Nat.mul_add, Nat.mul_add] at h5
 omega
theorem vM (N n o i : Nat) (h : N / W ^ o = n) : dig N (o + i) = dig n i := by
 subst h; rw [dig, dig, Nat.div_div_eq_div_mul, ← Nat.pow_add]
theorem bP (N o D : Nat) : (N + W ^ o * D) / W ^ o = N / W ^ o + D := Nat.add_mul_div_left _ _ (zW o)
theorem bC (N o D : Nat) : (N + W ^ o * D) % W ^ o = N % W ^ o := Nat.add_mul_mod_self_left _ _ _
theorem bX {n A x k : Nat} (hn : n < W ^ k) (hA : A < W ^ k) : (n + A * x) / W ^ k = mcar n A x k := by
 rw [mul_sum, Nat.div_eq_of_lt hn, Nat.div_eq_of_lt hA]; omega
theorem row_word {x y o c t u : Nat} (hx : x < W) (hy : y < W) (ho : o < W) (hc : c < W) (ht : t < W) (he : o + y * x + c = t + W * u) :
  ((x * y % 18446744073709551616 + o) % 18446744073709551616 + c) % 18446744073709551616 = t ∧
   x * y / 18446744073709551616 + (x * y % 18446744073709551616 + o) / 18446744073709551616 + ((x * y % 18446744073709551616 + o) % 18446744073709551616 + c) / 18446744073709551616 = u ∧ u < 18446744073709551616 := by
 have hxy : x * y ≤ 18446744073709551615 * 18446744073709551615 := Nat.mul_le_mul (by unfold W at hx; omega) (by unfold W at hy; omega)
 rw [Nat.mul_comm y x] at he
 generalize x * y = p at *
 unfold W at *
 omega
theorem ak (A B i : Nat) : A * (B % W ^ (i + 1)) = A * (B % W ^ i) + W ^ i * (A * dig B i) := by
 rw [jS, Nat.mul_add]; congr 1; rw [Nat.mul_left_comm]
theorem mul_lt_pow {A B i k : Nat} (hA : A < W ^ k) : A * (B % W ^ i) < W ^ (i + k) := by
 have hB := Nat.mod_lt B (zW i)
 rw [Nat.add_comm, Nat.pow_add]
 exact Nat.mul_lt_mul'' hA hB
theorem rowGet {N' N m o i : Nat} (h : o + i < m) : (mix (o + i) N' N m).getD (o + i) 0 = dig (N / W ^ o) i := by
 rw [mix_getD (Nat.le_refl _) h, vM _ _ _ _ rfl]
theorem rowPut {N A x m o i d : Nat} (h : o + i < m) (hd : d = dig (N / W ^ o + A * x) i) : (mix (o + i) (N + W ^ o * (A * x)) N m).set (o + i) d = mix (o + (i + 1)) (N + W ^ o * (A * x)) N m :=
 bZ h rfl (by rw [hd, vM _ _ _ _ (bP _ _ _)])
theorem vz (N o k : Nat) : N / W ^ (o + k) = N / W ^ o / W ^ k := by rw [Nat.pow_add, Nat.div_div_eq_div_mul]
theorem rowEnd {N A x m o i k : Nat} (hk : k = i) (hm : o + i + 1 ≤ m) (hn : N / W ^ o < W ^ i) (hA : A < W ^ i) (hx : x < W) :
  (mix (o + i) (N + W ^ o * (A * x)) N m).set (o + k) (mcar (N / W ^ o) A x i) = zI m (N + W ^ o * (A * x)) := by
 subst hk
 have h1 := bX (x := x) hn hA
 have h2 := aK (N / W ^ o) A x k
 rw [rowPut (by omega) (by rw [dig, h1, Nat.mod_eq_of_lt (by omega)])]
 refine ba (by omega) ?_
 have e1 : N / W ^ (o + (k + 1)) = 0 := by rw [vz]; exact Nat.div_eq_of_lt (Nat.lt_of_lt_of_le hn (wG (Nat.le_succ k)))
 have e2 : (N + W ^ o * (A * x)) / W ^ (o + (k + 1)) = 0 := by
  rw [vz, bP, Nat.pow_succ, ← Nat.div_div_eq_div_mul, h1]; exact Nat.div_eq_of_lt (by omega)
 rw [e1, e2]
theorem mulStart (A m : Nat) : List.replicate m 0 = zI m (A * (val [] % W ^ 0)) := by
 refine xf (fun x hx => ?_) (by simp) ?_
 ·rw [List.mem_replicate] at hx; rw [hx.2]; decide
 ·rw [xK]; simp [Nat.mod_one]
theorem mulStart' (A B m : Nat) : List.replicate m 0 = zI m (A * (B % W ^ 0)) := by
 rw [mulStart A m]; simp [Nat.mod_one]
theorem mulDiv {A B i k : Nat} (hA : A < W ^ k) : A * (B % W ^ i) / W ^ i < W ^ k := by
 rw [Nat.div_lt_iff_lt_mul (zW i), ← Nat.pow_add, Nat.add_comm]; exact mul_lt_pow hA
theorem mulEnd {A B m : Nat} (h : (List.length (zA A)) + (List.length (zA B)) + 1 = m) : zA (val (zI m (A * (B % W ^ (List.length (zA B)))))) = zA (A * B) := by
 rw [Nat.mod_eq_of_lt (qV B), qN]
 have h1 := qV A
 have h2 := qV B
 have h3 : A * B < W ^ (List.length (zA A)) * W ^ (List.length (zA B)) := Nat.mul_lt_mul'' h1 h2
 rw [← Nat.pow_add] at h3
 exact Nat.lt_of_lt_of_le h3 (wG (by omega))
end Go.Nt
namespace Go.Nt
theorem or_add {a b r : Nat} (h : a < 2 ^ r) : a ||| 2 ^ r * b = a + 2 ^ r * b := by
 rw [Nat.or_comm, ← Nat.two_pow_add_eq_or_of_lt h, Nat.add_comm]
theorem add_or {a b r : Nat} (h : b < 2 ^ r) : b ||| a * 2 ^ r = b + a * 2 ^ r := by rw [Nat.mul_comm a]; exact or_add h
theorem bA {r : Nat} (h : r ≤ 64) : 2 ^ (64 - r) * 2 ^ r = W := by
 rw [← Nat.pow_add, Nat.sub_add_cancel h]
theorem wV (k : Nat) : 2 ^ k = W ^ (k / 64) * 2 ^ (k % 64) := by
 have : W = 2 ^ 64 := rfl
 rw [this, ← Nat.pow_mul, ← Nat.pow_add]; congr 1; omega
theorem dz {d r : Nat} (h : r ≤ 64) : d * 2 ^ r % W = d % 2 ^ (64 - r) * 2 ^ r := by
 rw [← bA h, Nat.mul_mod_mul_right]
theorem ce {d r : Nat} (h : r ≤ 64) : d % 2 ^ (64 - r) * 2 ^ r + 2 ^ r ≤ W := by
 have : d % 2 ^ (64 - r) + 1 ≤ 2 ^ (64 - r) := Nat.mod_lt _ (Nat.pow_pos (by decide))
 rw [← bA h, ← Nat.succ_mul]; exact Nat.mul_le_mul_right _ this
theorem cH {n d r : Nat} (hr : r ≤ 64) (hn : n < 2 ^ r) : n ||| d * 2 ^ r % W = (n + d * 2 ^ r) % W ∧ (n + d * 2 ^ r) / W = d / 2 ^ (64 - r) := by
 have h1 := dz (d := d) hr
 have h2 := ce (d := d) hr
 have h3 : d * 2 ^ r / W = d / 2 ^ (64 - r) := by rw [← bA hr, Nat.mul_div_mul_right _ _ (Nat.pow_pos (by decide))]
 rw [h1, add_or hn]
 rw [← h1] at h2 ⊢
 generalize d * 2 ^ r = D at *
 generalize 2 ^ r = p at *
 rw [← h3]
 clear h1 h3
 unfold W at *
 constructor <;> omega
theorem cJ (A k i : Nat) : A % W ^ (i + 1) * 2 ^ k = A % W ^ i * 2 ^ k + W ^ (k / 64 + i) * (dig A i * 2 ^ (k % 64)) := by
 rw [jS, Nat.add_mul]
 congr 1
 rw [wV k, Nat.pow_add]
 generalize 2 ^ (k % 64) = r
 generalize W ^ (k / 64) = w
 grind
theorem en (A k i : Nat) : A % W ^ i * 2 ^ k / W ^ (k / 64 + i) < 2 ^ (k % 64) := by
 have h := Nat.mod_lt A (zW i)
 rw [Nat.div_lt_iff_lt_mul (zW _), wV k, Nat.pow_add]
 have hw := zW (k / 64)
 have hr : 0 < 2 ^ (k % 64) := Nat.pow_pos (by decide)
 generalize 2 ^ (k % 64) = r at *
 generalize W ^ (k / 64) = w at *
 have : A % W ^ i * (w * r) < W ^ i * (w * r) := Nat.mul_lt_mul_of_pos_right h (Nat.mul_pos hw hr)
 have e : r * (w * W ^ i) = W ^ i * (w * r) := by grind
 rw [e]; exact this
theorem aa {A k i : Nat} : A % W ^ i * 2 ^ k / W ^ (k / 64 + i) < W :=
 Nat.lt_of_lt_of_le (en A k i) (by have := Nat.pow_le_pow_right (n := 2) (by decide) (by omega : k % 64 ≤ 64); simpa [W] using this)
theorem shl_get {A k i m : Nat} (h : k / 64 + i < m) : (zI m (A % W ^ i * 2 ^ k)).getD (k / 64 + i) 0 = A % W ^ i * 2 ^ k / W ^ (k / 64 + i) := by
 rw [vH h, dig, Nat.mod_eq_of_lt aa]
theorem jX (N k : Nat) : N / W ^ (k + 1) = N / W ^ k / W := by rw [Nat.pow_succ, Nat.div_div_eq_div_mul]
theorem jp (n i : Nat) : dig n i = n / W ^ i % W := rfl
theorem shl_hi {A k i : Nat} : (A % W ^ (i + 1) * 2 ^ k) / W ^ (k / 64 + i + 1) = dig A i / 2 ^ (64 - k % 64) := by
 rw [jX, cJ, bP, (cH (by omega) (en A k i)).2]
theorem shl_set1 {A k i m v : Nat} (h : k / 64 + i < m) (hv : v = A % W ^ i * 2 ^ k / W ^ (k / 64 + i) ||| dig A i * 2 ^ (k % 64) % W) :
  (zI m (A % W ^ i * 2 ^ k)).set (k / 64 + i) v = mix (k / 64 + i + 1) (A % W ^ (i + 1) * 2 ^ k) (A % W ^ i * 2 ^ k) m := by
 rw [jT (Nat.le_of_lt h) (N' := A % W ^ (i + 1) * 2 ^ k) (by rw [cJ, bC]), bZ h rfl]
 rw [hv, (cH (by omega) (en A k i)).1, jp (A % W ^ (i + 1) * 2 ^ k), cJ, bP]
theorem shl_end0 {A k i m : Nat} (h : k / 64 + i < m) (hk : k % 64 = 0) : mix (k / 64 + i + 1) (A % W ^ (i + 1) * 2 ^ k) (A % W ^ i * 2 ^ k) m = zI m (A % W ^ (i + 1) * 2 ^ k) := by
 refine ba h ?_
 rw [shl_hi, jX, Nat.div_eq_of_lt aa, hk, Nat.div_eq_of_lt]
 have := qR A i
 simpa [W] using this
theorem shl_set2 {A k i m v j : Nat} (h : k / 64 + i + 1 < m) (hj : j = k / 64 + i + 1) (hk : 0 < k % 64) (hv : v = dig A i / 2 ^ (64 - k % 64)) :
  (mix (k / 64 + i + 1) (A % W ^ (i + 1) * 2 ^ k) (A % W ^ i * 2 ^ k) m).set j v = zI m (A % W ^ (i + 1) * 2 ^ k) := by
 have h1 : dig A i / 2 ^ (64 - k % 64) < W := Nat.lt_of_le_of_lt (Nat.div_le_self _ _) (qR A i)
 rw [bZ h hj (by rw [hv, jp (A % W ^ (i + 1) * 2 ^ k), shl_hi, Nat.mod_eq_of_lt h1])]
 refine ba h ?_
 rw [jX _ (k / 64 + i + 1), jX _ (k / 64 + i + 1), shl_hi, Nat.div_eq_of_lt h1, jX, Nat.div_eq_of_lt aa, Nat.zero_div]
theorem shlStart (A k m : Nat) : List.replicate m 0 = zI m (A % W ^ 0 * 2 ^ k) := by
 rw [Nat.pow_zero, Nat.mod_one, Nat.zero_mul]
 exact xf (fun x hx => by rw [List.mem_replicate] at hx; rw [hx.2]; decide) (by simp) (by rw [xK]; simp)
theorem pow2_le (k : Nat) : 2 ^ k ≤ W ^ (k / 64 + 1) := by
 rw [wV, Nat.pow_succ]
 refine Nat.mul_le_mul_left _ ?_
 have := Nat.pow_le_pow_right (n := 2) (by decide) (by omega : k % 64 ≤ 64); simpa [W] using this
theorem shlEnd {A k m : Nat} (h : (List.length (zA A)) + k / 64 + 1 = m) : zA (val (zI m (A % W ^ (List.length (zA A)) * 2 ^ k))) = zA (A * 2 ^ k) := by
 rw [Nat.mod_eq_of_lt (qV A), qN]
 rw [← h, Nat.add_assoc, Nat.pow_add]
 have h1 := qV A
 exact Nat.lt_of_lt_of_le (Nat.mul_lt_mul_of_pos_right h1 (Nat.pow_pos (by decide))) (Nat.mul_le_mul_left _ (pow2_le k))
theorem shr_dig (X i : Nat) {r : Nat} (hr : r ≤ 64) : dig X i / 2 ^ r ||| dig X (i + 1) * 2 ^ (64 - r) % W = dig (X / 2 ^ r) i := by
 have e1 : X / 2 ^ r / W ^ i = X / W ^ i / 2 ^ r := by rw [Nat.div_div_eq_div_mul, Nat.mul_comm, ← Nat.div_div_eq_div_mul]
 have h0 := qR X i
 have e2 := ql X i
 have e3 := ql X (i + 1)
 have e4 := bA hr
 have h4 : 64 - (64 - r) = r := by omega
 have h5 := dz (d := dig X (i + 1)) (r := 64 - r) (by omega)
 rw [show dig (X / 2 ^ r) i = X / 2 ^ r / W ^ i % W from rfl, e1, e2, e3]
 have hp : 0 < 2 ^ r := Nat.pow_pos (by decide)
 have h6 : dig X i / 2 ^ r < 2 ^ (64 - r) := by rw [Nat.div_lt_iff_lt_mul hp, e4]; exact h0
 have h7 := ce (d := dig X (i + 1)) (r := 64 - r) (by omega)
 rw [h5, add_or h6, ← h5]
 rw [← h5] at h7
 have e5 : (W * (W * (X / W ^ (i + 1 + 1)) + dig X (i + 1)) + dig X i) / 2 ^ r = dig X i / 2 ^ r + dig X (i + 1) * 2 ^ (64 - r) + W * (X / W ^ (i + 1 + 1) * 2 ^ (64 - r)) := by
  have : W * (W * (X / W ^ (i + 1 + 1)) + dig X (i + 1)) + dig X i = dig X i + 2 ^ r * (2 ^ (64 - r) * (W * (X / W ^ (i + 1 + 1)) + dig X (i + 1))) := by
   rw [← Nat.mul_assoc, Nat.mul_comm (2 ^ r), e4]; omega
  rw [this, Nat.add_mul_div_left _ _ hp]
  generalize 2 ^ (64 - r) = q at *
  generalize X / W ^ (i + 1 + 1) = y
  generalize dig X (i + 1) = z
  generalize dig X i / 2 ^ r = t
  grind
 rw [e5, Nat.add_mul_mod_self_left]
 generalize dig X (i + 1) * 2 ^ (64 - r) = D at *
 generalize dig X i / 2 ^ r = t at *
 generalize 2 ^ (64 - r) = q at *
 clear e1 e2 e3 e4 e5 h5
 unfold W at *
 omega
theorem dD (A w : Nat) : (zA A).drop w = zA (A / W ^ w) := by
  induction w generalizing A with
  | zero => simp
  | succ w ih =>
    by_cases h : A = 0
    · subst h; rw [zF]; simp [zF]
    · rw [xw h, List.drop_succ_cons, ih, Nat.div_div_eq_div_mul, Nat.pow_succ, Nat.mul_comm W]
theorem nw_div (A w : Nat) : (List.length (zA (A / W ^ w))) = (List.length (zA A)) - w := by rw [← dD]; simp
theorem eQ (A k : Nat) : A / W ^ (k / 64) / 2 ^ (k % 64) = A / 2 ^ k := by rw [wV k, Nat.div_div_eq_div_mul]
theorem shr_set2 {N i m v e : Nat} (h : i < m) (hv : v ||| e = dig N i) : ((qa N i m).set i v).set i ((((qa N i m).set i v).getD i 0) ||| e) = qa N (i + 1) m := by
 have hl : (qa N i m).length = m := wQ (by omega)
 have e1 : ((qa N i m).set i v).getD i 0 = v := by
  rw [List.getD_eq_getElem?_getD, List.getElem?_set_self (by rw [hl]; exact h)]; rfl
 rw [e1, List.set_set, jJ h hv]
theorem shr_step2 {X i m r : Nat} (hr : r < 64) (h : i < m) : ((qa (X / 2 ^ r) i m).set i (dig X i / 2 ^ r)).set i ((((qa (X / 2 ^ r) i m).set i (dig X i / 2 ^ r)).getD i 0) ||| dig X (i + 1) * 2 ^ (64 - r) % W) = qa (X / 2 ^ r) (i + 1) m :=
 shr_set2 h (shr_dig X i (by omega))
theorem shr_step1 {X i m r : Nat} (hr : r < 64) (h : i < m) (hm : m = (List.length (zA X))) (h0 : 0 < r → m ≤ i + 1) : (qa (X / 2 ^ r) i m).set i (dig X i / 2 ^ r) = qa (X / 2 ^ r) (i + 1) m := by
 refine jJ h ?_
 rw [← shr_dig X i (Nat.le_of_lt hr)]
 rcases Nat.eq_zero_or_pos r with h1 | h1
 ·subst h1
  have : dig X (i + 1) * 2 ^ (64 - 0) % W = 0 := by show _ * W % W = 0; exact Nat.mul_mod_left _ _
  rw [this, Nat.or_zero]
 ·rw [jY (n := X) (i := i + 1) (by rw [← hm]; exact h0 h1)]; simp
theorem shr_none {A k : Nat} (h : (List.length (zA A)) ≤ k / 64) : [] = zA (A / 2 ^ k) := by
 rw [← eQ, Nat.div_eq_of_lt (xd h), Nat.zero_div, zF]
theorem shr_end {A k m : Nat} (h : m = (List.length (zA (A / W ^ (k / 64))))) : zA (val (zI m (A / W ^ (k / 64) / 2 ^ (k % 64)))) = zA (A / 2 ^ k) := by
 rw [qN, eQ]
 exact Nat.lt_of_le_of_lt (Nat.div_le_self _ _) (h ▸ qV _)
theorem topW {A k : Nat} (hA : A ≠ 0) : ¬ (zA A ++ List.replicate k 0).getD ((((List.length (zA A)) : Nat) : Int) - 1).toNat 0 = 0 := by
 intro h
 have n1 := vj hA
 have e : ((((List.length (zA A)) : Nat) : Int) - 1).toNat = (List.length (zA A)) - 1 := by omega
 rw [e, List.getD_eq_getElem?_getD, List.getElem?_append_left (by omega), ← List.getD_eq_getElem?_getD, zZ] at h
 exact aR hA h
theorem words_ne {A : Nat} (h : zA A ≠ []) : A ≠ 0 := fun e => h (by rw [e, zF])
end Go.Nt
namespace Go.Nt
theorem wM {x : Nat} (h : x < 18446744073709551616) : bitLen x ≤ 64 := by
 have h1 := (bitLen_spec x).2
 rcases Nat.lt_or_ge 64 (bitLen x) with h2 | h2
 ·have h3 : x ≠ 0 := by intro e; subst e; simp [bitLen] at h2
  have h4 := h1 h3
  have h5 : 2 ^ 64 ≤ 2 ^ (bitLen x - 1) := Nat.pow_le_pow_right (by decide) (by omega)
  omega
 ·exact h2
theorem vp {x : Nat} (h : x ≠ 0) : 0 < bitLen x := by unfold bitLen; rw [if_neg h]; omega
theorem lead {y s : Nat} (hy : y < 18446744073709551616) (h0 : y ≠ 0) (hs : s = 64 - bitLen y) : 9223372036854775808 ≤ y * 2 ^ s ∧ y * 2 ^ s < 18446744073709551616 := by
 have h1 := bitLen_spec y
 have h2 := wM hy
 have h3 := vp h0
 have h4 := h1.2 h0
 constructor
 ·have : 2 ^ (bitLen y - 1) * 2 ^ s ≤ y * 2 ^ s := Nat.mul_le_mul_right _ h4
  rw [← Nat.pow_add, show bitLen y - 1 + s = 63 by omega] at this
  exact this
 ·have : y * 2 ^ s < 2 ^ bitLen y * 2 ^ s := Nat.mul_lt_mul_of_pos_right h1.1 (Nat.pow_pos (by decide))
  rw [← Nat.pow_add, show bitLen y + s = 64 by omega] at this
  exact this
structure Gs (u u1 v1 v0 q r : Nat) : Prop where
 e : u = q * v1 + r
 le : (u * 4294967296 + u1) / (v1 * 4294967296 + v0) ≤ q
 q : q ≤ 4294967297
 r : r < 4294967296
structure Hv (u u1 v1 v0 : Nat) : Prop where
 a : 2147483648 ≤ v1
 b : v1 < 4294967296
 c : v0 < 4294967296
 d : u < v1 * 4294967296 + v0
 f : u1 < 4294967296
theorem Gs.start {u u1 v1 v0 : Nat} (h : Hv u u1 v1 v0) : Gs u u1 v1 v0 (u / v1) (u - u / v1 * v1) := by
 obtain ⟨h1, h2, h3, h4, h5⟩ := h
 have e1 := Nat.div_add_mod u v1
 have e2 := Nat.mod_lt u (show 0 < v1 by omega)
 rw [Nat.mul_comm] at e1
 refine ⟨by omega, ?_, ?_, by omega⟩
 ·rw [Nat.le_div_iff_mul_le (by omega)]
  have h6 := Nat.div_mul_le_self (u * 4294967296 + u1) (v1 * 4294967296 + v0)
  generalize (u * 4294967296 + u1) / (v1 * 4294967296 + v0) = Q at *
  rw [Nat.mul_add, ← Nat.mul_assoc] at h6
  generalize Q * v1 = p at *
  generalize Q * v0 = p' at *
  omega
 ·rcases Nat.lt_or_ge 4294967297 (u / v1) with h6 | h6
  ·have : 4294967298 * v1 ≤ u / v1 * v1 := Nat.mul_le_mul_right _ h6
   omega
  ·exact h6
theorem Gs.next {u u1 v1 v0 q r : Nat} (h : Hv u u1 v1 v0) (g : Gs u u1 v1 v0 q r) (hc : 4294967296 ≤ q ∨ 4294967296 * r + u1 < q * v0) :
  u = (q - 1) * v1 + (r + v1) ∧ (u * 4294967296 + u1) / (v1 * 4294967296 + v0) ≤ q - 1 ∧ q - 1 ≤ 4294967296 ∧ 1 ≤ q := by
 obtain ⟨h1, h2, h3, h4, h5⟩ := h
 obtain ⟨g1, g2, g3, g4⟩ := g
 have hq : 1 ≤ q := by
  rcases hc with hc | hc
  ·omega
  ·rcases Nat.eq_zero_or_pos q with h | h
   ·subst h; omega
   ·exact h
 have hlt : (u * 4294967296 + u1) / (v1 * 4294967296 + v0) < q := by
  rw [Nat.div_lt_iff_lt_mul (by omega), Nat.mul_add, ← Nat.mul_assoc]
  rcases hc with hc | hc
  ·have h6 : 4294967296 * (v1 * 4294967296 + v0) ≤ q * (v1 * 4294967296 + v0) := Nat.mul_le_mul_right _ hc
   rw [Nat.mul_add q, ← Nat.mul_assoc] at h6
   omega
  ·omega
 refine ⟨?_, by omega, by omega, hq⟩
 obtain ⟨k, rfl⟩ : ∃ k, q = k + 1 := ⟨q - 1, by omega⟩
 rw [Nat.succ_mul] at g1
 simp only [Nat.add_sub_cancel]
 omega
theorem Gs.exit {u u1 v1 v0 q r : Nat} (h : Hv u u1 v1 v0) (g : Gs u u1 v1 v0 q r) (hc : q * v0 ≤ 4294967296 * r + u1) : q = (u * 4294967296 + u1) / (v1 * 4294967296 + v0) := by
 obtain ⟨h1, h2, h3, h4, h5⟩ := h
 obtain ⟨g1, g2, g3, g4⟩ := g
 refine Nat.le_antisymm ?_ g2
 rw [Nat.le_div_iff_mul_le (by omega), Nat.mul_add, ← Nat.mul_assoc]
 omega
theorem Gs.exit2 {u u1 v1 v0 q r : Nat} (h : Hv u u1 v1 v0) (g1 : u = q * v1 + r) (g2 : (u * 4294967296 + u1) / (v1 * 4294967296 + v0) ≤ q) (g3 : q ≤ 4294967296) (hr : 4294967296 ≤ r) :
  q = (u * 4294967296 + u1) / (v1 * 4294967296 + v0) := by
 obtain ⟨h1, h2, h3, h4, h5⟩ := h
 refine Nat.le_antisymm ?_ g2
 rw [Nat.le_div_iff_mul_le (by omega), Nat.mul_add, ← Nat.mul_assoc]
 have : q * v0 ≤ 4294967296 * 4294967295 := Nat.mul_le_mul g3 (by omega)
 omega
theorem mul_bb {q v : Nat} (h1 : q < 4294967296) (h2 : v < 4294967296) : q * v < 18446744073709551616 := Nat.mul_lt_mul'' h1 h2
theorem wrapSub {a u p r : Nat} (h : a * 4294967296 + u = p + r) (hr : r < 18446744073709551616) (hp : u < 4294967296) :
  ((a * 4294967296 % 18446744073709551616 + u) % 18446744073709551616 + (18446744073709551616 - p % 18446744073709551616)) % 18446744073709551616 = r := by omega
theorem wrapAdd {q1 q0 : Nat} (h1 : q1 < 4294967296) (h0 : q0 < 4294967296) : (q1 * 4294967296 % 18446744073709551616 + q0) % 18446744073709551616 = q1 * 4294967296 + q0 := by omega
theorem divMul (t y : Nat) : t = t / y * y + t % y := by have := Nat.div_add_mod t y; rw [Nat.mul_comm] at this; omega
structure D64 (hi lo y s Y A U1 U0 v1 v0 : Nat) : Prop where
 ks : s ≤ 64
 yl : Y < 18446744073709551616
 un32 : hi * 2 ^ s % 18446744073709551616 ||| lo / 2 ^ (64 - s) = A
 al : A < 18446744073709551616
 kv1 : Y / 4294967296 = v1
 kv0 : Y % 4294967296 = v0
 u1 : lo * 2 ^ s % 18446744073709551616 / 4294967296 = U1
 u0 : lo * 2 ^ s % 18446744073709551616 % 4294967296 = U0
 hv : Hv A U1 v1 v0
 kY : v1 * 4294967296 + v0 = Y
 hv2 : Hv ((A * 4294967296 + U1) % Y) U0 v1 v0
 q1 : (A * 4294967296 + U1) / Y < 4294967296
 q0 : ((A * 4294967296 + U1) % Y * 4294967296 + U0) / Y < 4294967296
 r1 : (A * 4294967296 + U1) % Y < 18446744073709551616
 r0 : ((A * 4294967296 + U1) % Y * 4294967296 + U0) % Y < 18446744073709551616
 quo : (A * 4294967296 + U1) / Y * 4294967296 + ((A * 4294967296 + U1) % Y * 4294967296 + U0) / Y = (hi * 18446744073709551616 + lo) / y
 rem : ((A * 4294967296 + U1) % Y * 4294967296 + U0) % Y / 2 ^ s = (hi * 18446744073709551616 + lo) % y
theorem mkHv {u Y n : Nat} (h : u < Y) (h1 : 9223372036854775808 ≤ Y) (h2 : Y < 18446744073709551616) (h3 : n < 4294967296) : Hv u n (Y / 4294967296) (Y % 4294967296) :=
 ⟨by omega, by omega, by omega, by omega, h3⟩
theorem splitY (Y : Nat) : Y / 4294967296 * 4294967296 + Y % 4294967296 = Y := by omega
theorem d64 {hi lo y : Nat} (hlo : lo < 18446744073709551616) (hy : y < 18446744073709551616) (h : hi < y) :
  ∃ s Y A U1 U0 v1 v0, s = 64 - bitLen y ∧ Y = y * 2 ^ s ∧ D64 hi lo y s Y A U1 U0 v1 v0 := by
 obtain ⟨s, hs⟩ : ∃ s, s = 64 - bitLen y := ⟨_, rfl⟩
 have hl := lead hy (by omega) hs
 have hs64 : s ≤ 64 := by omega
 have hp : 0 < 2 ^ s := Nat.pow_pos (by decide)
 have hd : lo / 2 ^ (64 - s) < 2 ^ s := by
  rw [Nat.div_lt_iff_lt_mul (Nat.pow_pos (by decide)), Nat.mul_comm, bA hs64]; exact hlo
 have hsw := cH (d := hi) hs64 hd
 have h1 : hi * 2 ^ s + 2 ^ s ≤ y * 2 ^ s := by rw [← Nat.succ_mul]; exact Nat.mul_le_mul_right _ h
 have h32 : hi * 2 ^ s % 18446744073709551616 ||| lo / 2 ^ (64 - s) = lo / 2 ^ (64 - s) + hi * 2 ^ s := by
  rw [Nat.or_comm]
  refine hsw.1.trans (Nat.mod_eq_of_lt ?_)
  unfold W; omega
 obtain ⟨Y, hY⟩ : ∃ Y, Y = y * 2 ^ s := ⟨_, rfl⟩
 have hlo2 : lo * 2 ^ s / 18446744073709551616 = lo / 2 ^ (64 - s) := by
  have := bA hs64
  rw [show (18446744073709551616 : Nat) = W from rfl, ← this, Nat.mul_div_mul_right _ _ hp]
 have eN : (hi * 18446744073709551616 + lo) * 2 ^ s = (lo / 2 ^ (64 - s) + hi * 2 ^ s) * 18446744073709551616 + lo * 2 ^ s % 18446744073709551616 := by
  have := Nat.div_add_mod (lo * 2 ^ s) 18446744073709551616
  rw [hlo2] at this
  rw [Nat.add_mul, Nat.mul_right_comm, Nat.add_mul]; omega
 have eq1 : (hi * 18446744073709551616 + lo) * 2 ^ s / Y = (hi * 18446744073709551616 + lo) / y := by rw [hY, Nat.mul_div_mul_right _ _ hp]
 have er1 : (hi * 18446744073709551616 + lo) * 2 ^ s % Y = (hi * 18446744073709551616 + lo) % y * 2 ^ s := by rw [hY, Nat.mul_mod_mul_right]
 rw [eN] at eq1 er1
 rw [← hY] at hl h1
 obtain ⟨A, hA⟩ : ∃ A, A = lo / 2 ^ (64 - s) + hi * 2 ^ s := ⟨_, rfl⟩
 rw [← hA] at h32 eq1 er1
 have hAY : A < Y := by omega
 have hn0 : lo * 2 ^ s % 18446744073709551616 < 18446744073709551616 := Nat.mod_lt _ (by decide)
 obtain ⟨n0, hn⟩ : ∃ n0, n0 = lo * 2 ^ s % 18446744073709551616 := ⟨_, rfl⟩
 rw [← hn] at eq1 er1 hn0
 have hT : (A * 4294967296 + n0 / 4294967296) % Y < Y := Nat.mod_lt _ (by omega)
 have eT := Nat.div_add_mod (A * 4294967296 + n0 / 4294967296) Y
 have e3 : A * 18446744073709551616 + n0 = (A * 4294967296 + n0 / 4294967296) % Y * 4294967296 + n0 % 4294967296 + Y * ((A * 4294967296 + n0 / 4294967296) / Y * 4294967296) := by
  rw [← Nat.mul_assoc]; omega
 rw [e3, Nat.add_mul_div_left _ _ (by omega)] at eq1
 rw [e3, Nat.add_mul_mod_self_left] at er1
 have hq1 : (A * 4294967296 + n0 / 4294967296) / Y < 4294967296 := by
  rw [Nat.div_lt_iff_lt_mul (by omega)]; omega
 have hq0 : ((A * 4294967296 + n0 / 4294967296) % Y * 4294967296 + n0 % 4294967296) / Y < 4294967296 := by
  rw [Nat.div_lt_iff_lt_mul (by omega)]; omega
 have hr0 := Nat.mod_lt ((A * 4294967296 + n0 / 4294967296) % Y * 4294967296 + n0 % 4294967296) (by omega : Y > 0)
 have b0 : n0 % 4294967296 < 4294967296 := Nat.mod_lt _ (by decide)
 have b1 : n0 / 4294967296 < 4294967296 := by rw [Nat.div_lt_iff_lt_mul (by decide)]; exact hn0
 refine ⟨s, Y, A, n0 / 4294967296, n0 % 4294967296, Y / 4294967296, Y % 4294967296, hs, hY, ⟨hs64, hl.2, h32, Nat.lt_trans hAY hl.2, rfl, rfl, by rw [hn], by rw [hn], mkHv hAY hl.1 hl.2 b1, splitY Y, mkHv hT hl.1 hl.2 b0, hq1, hq0, Nat.lt_trans hT hl.2, Nat.lt_trans hr0 hl.2, ?_, ?_⟩⟩
 ·rw [← eq1, Nat.add_comm]
 ·rw [er1, Nat.mul_div_cancel _ hp]
/-! ### division by a word -/
theorem smallStart (A Q j : Nat) : zA A ++ List.replicate j 0 = mix ((List.length (zA A))) A Q ((List.length (zA A))) ++ List.replicate j 0 := by
 congr 1
 unfold mix
 rw [Nat.sub_self]
 conv => lhs; rw [aE]
 simp [zI]
theorem getD_app {xs ys : List Nat} {i : Nat} (h : i < xs.length) : (xs ++ ys).getD i 0 = xs.getD i 0 := by
 rw [List.getD_eq_getElem?_getD, List.getElem?_append_left h, ← List.getD_eq_getElem?_getD]
theorem mix_low {k N' N m j : Nat} (h : j < k) : (mix k N' N m).getD j 0 = dig N' j := by
 unfold mix; rw [getD_app (by rw [zV]; exact h), vH h]
theorem mix_down {A Q m j k d : Nat} (hk : 0 < k) (hm : k ≤ m) (hd : d = dig Q (k - 1)) : (mix k A Q m ++ List.replicate j 0).set (k - 1) d = mix (k - 1) A Q m ++ List.replicate j 0 := by
 obtain ⟨i, rfl⟩ : ∃ i, k = i + 1 := ⟨k - 1, by omega⟩
 simp only [Nat.add_sub_cancel] at *
 rw [List.set_append_left _ _ (by rw [vS hm]; omega)]
 congr 1
 unfold mix
 rw [List.set_append_left _ _ (by rw [zV]; omega), jz, List.set_append_right _ _ (by rw [zV]; exact Nat.le_refl _), zV, Nat.sub_self, List.set_cons_zero, hd]
 have : m - i = (m - (i + 1)) + 1 := by omega
 rw [this, zI, Nat.div_div_eq_div_mul, ← Nat.pow_succ]
 simp [dig]
theorem quo_word {r d x : Nat} (hx : 0 < x) (h : r < x) (hd : d < 18446744073709551616) : (r * 18446744073709551616 + d) / x < 18446744073709551616 := by
 rw [Nat.div_lt_iff_lt_mul hx]; omega
theorem cF {A x k : Nat} (hx : 0 < x) (hk : 0 < k) : (A / W ^ k % x * 18446744073709551616 + dig A (k - 1)) / x = dig (A / x) (k - 1) ∧ (A / W ^ k % x * 18446744073709551616 + dig A (k - 1)) % x = A / W ^ (k - 1) % x := by
 have e := qd A k hk
 have hd := qR A (k - 1)
 have h1 := Nat.div_add_mod (A / W ^ k) x
 have h2 := Nat.mod_lt (A / W ^ k) hx
 have e2 : A / W ^ (k - 1) = (A / W ^ k % x * 18446744073709551616 + dig A (k - 1)) + x * (18446744073709551616 * (A / W ^ k / x)) := by
  rw [e, Nat.mul_left_comm]
  generalize x * (A / W ^ k / x) = p at *
  unfold W at *
  omega
 constructor
 ·rw [jp (A / x), Nat.div_div_eq_div_mul, Nat.mul_comm x, ← Nat.div_div_eq_div_mul, e2, Nat.add_mul_div_left _ _ hx, show W = 18446744073709551616 from rfl, Nat.add_mul_mod_self_left]
  symm
  apply Nat.mod_eq_of_lt
  exact quo_word hx h2 hd
 ·rw [e2, Nat.add_mul_mod_self_left]
theorem smallEnd {A x j n : Nat} (hn : n = (List.length (zA A))) : ((mix 0 A (A / x) ((List.length (zA A))) ++ List.replicate j 0).drop 0).take n = zI ((List.length (zA A))) (A / x) := by
 subst hn
 rw [List.drop_zero, List.take_left' (by rw [vS (Nat.zero_le _)])]
 simp [mix, zI]
theorem words_quo (A x : Nat) : zA (val (zI ((List.length (zA A))) (A / x))) = zA (A / x) := qN (Nat.lt_of_le_of_lt (Nat.div_le_self _ _) (qV A))
theorem normLe {A x B : Nat} (h : (List.length (zA A)) ≤ B) : (List.length (zA (A / x % W ^ (List.length (zA A))))) ≤ B := Nat.le_trans (ze (Nat.le_trans (Nat.mod_le _ _) (Nat.div_le_self _ _))) h
theorem jg {A : Nat} (h : zA A = []) : A = 0 := by rw [← zC A, h]; rfl
end Go.Nt
namespace Go.Nt
set_option maxRecDepth 8000
def gss (u2 u1 u0 v1 v0 : Nat) : Nat := min (((u2 * 18446744073709551616 + u1) * 18446744073709551616 + u0) / (v1 * 18446744073709551616 + v0)) 18446744073709551615
structure Gw (u2 u1 u0 v1 v0 q r : Nat) : Prop where
 e : u2 * 18446744073709551616 + u1 = q * v1 + r
 le : gss u2 u1 u0 v1 v0 ≤ q
 q : q ≤ 18446744073709551615
 r : r < 36893488147419103232
theorem gss_max {u2 u1 u0 v1 v0 : Nat} (h : v1 < u2) (h0 : v0 < 18446744073709551616) (h1 : 0 < v1) : 18446744073709551615 = gss u2 u1 u0 v1 v0 := by
 unfold gss
 rw [Nat.min_eq_right]
 rw [Nat.le_div_iff_mul_le (by omega)]
 omega
theorem low_le {p p' t u0 w : Nat} (h : p * w + p' ≤ t * w + u0) (h0 : u0 < w) : p ≤ t := by
 apply Nat.le_of_lt_succ
 apply Nat.lt_of_mul_lt_mul_right (a := w)
 rw [Nat.succ_mul]; omega
theorem low_lt {p p' r u0 w : Nat} (h : r * w + u0 < p') : (p + r) * w + u0 < p * w + p' := by rw [Nat.add_mul]; omega
theorem Gw.same {u2 u1 u0 v1 v0 : Nat} (h : u2 = v1) (h1 : u1 < 18446744073709551616) (h2 : v1 < 18446744073709551616) : Gw u2 u1 u0 v1 v0 18446744073709551615 (u1 + v1) :=
 ⟨by omega, Nat.min_le_right _ _, Nat.le_refl _, by omega⟩
theorem Gw.start {u2 u1 u0 v1 v0 : Nat} (h : u2 < v1) (h1 : u1 < 18446744073709551616) (h0 : u0 < 18446744073709551616) (h2 : v1 < 18446744073709551616) :
  Gw u2 u1 u0 v1 v0 ((u2 * 18446744073709551616 + u1) / v1) ((u2 * 18446744073709551616 + u1) % v1) := by
 have e1 := divMul (u2 * 18446744073709551616 + u1) v1
 have e2 := Nat.mod_lt (u2 * 18446744073709551616 + u1) (show 0 < v1 by omega)
 refine ⟨e1, ?_, ?_, by omega⟩
 ·refine Nat.le_trans (Nat.min_le_left _ _) ?_
  rw [Nat.le_div_iff_mul_le (by omega)]
  have h6 := Nat.div_mul_le_self ((u2 * 18446744073709551616 + u1) * 18446744073709551616 + u0) (v1 * 18446744073709551616 + v0)
  rw [Nat.mul_add, ← Nat.mul_assoc] at h6
  exact low_le h6 h0
 ·exact Nat.le_of_lt_succ (quo_word (r := u2) (d := u1) (by omega) h h1)
theorem Gw.next {u2 u1 u0 v1 v0 q r : Nat} (h1 : 0 < v1) (h2 : v1 < 18446744073709551616) (g : Gw u2 u1 u0 v1 v0 q r) (hr : r < 18446744073709551616) (hc : r * 18446744073709551616 + u0 < q * v0) :
  Gw u2 u1 u0 v1 v0 (q - 1) (r + v1) ∧ 1 ≤ q := by
 obtain ⟨g1, g2, g3, g4⟩ := g
 have hq : 1 ≤ q := by
  rcases Nat.eq_zero_or_pos q with h | h
  ·subst h; omega
  ·exact h
 have hlt : ((u2 * 18446744073709551616 + u1) * 18446744073709551616 + u0) / (v1 * 18446744073709551616 + v0) < q := by
  rw [Nat.div_lt_iff_lt_mul (by omega), Nat.mul_add, ← Nat.mul_assoc, g1]
  exact low_lt hc
 refine ⟨⟨?_, ?_, by omega, by omega⟩, hq⟩
 ·obtain ⟨k, rfl⟩ : ∃ k, q = k + 1 := ⟨q - 1, by omega⟩
  rw [Nat.succ_mul] at g1
  simp only [Nat.add_sub_cancel]
  omega
 ·exact Nat.le_trans (Nat.min_le_left _ _) (by omega)
theorem Gw.exit {u2 u1 u0 v1 v0 q r : Nat} (h1 : 0 < v1) (g : Gw u2 u1 u0 v1 v0 q r) (hc : q * v0 ≤ r * 18446744073709551616 + u0) : q = gss u2 u1 u0 v1 v0 := by
 obtain ⟨g1, g2, g3, g4⟩ := g
 refine Nat.le_antisymm ?_ g2
 refine Nat.le_min.2 ⟨?_, g3⟩
 rw [Nat.le_div_iff_mul_le (by omega), Nat.mul_add, ← Nat.mul_assoc, g1]
 omega
theorem Gw.exit2 {u2 u1 u0 v1 v0 q r : Nat} (h1 : 0 < v1) (g : Gw u2 u1 u0 v1 v0 q r) (h0 : v0 < 18446744073709551616) (hr : 18446744073709551616 ≤ r) : q = gss u2 u1 u0 v1 v0 := by
 refine g.exit h1 ?_
 have : q * v0 ≤ 18446744073709551615 * 18446744073709551615 := Nat.mul_le_mul g.q (by omega)
 omega
theorem test_le {p r u0 : Nat} (hr : r < 18446744073709551616) (hu : u0 < 18446744073709551616) : (p / 18446744073709551616 < r ∨ p / 18446744073709551616 = r ∧ p % 18446744073709551616 ≤ u0) ↔ p ≤ r * 18446744073709551616 + u0 := by omega
/-! ### a multiple taken away, in place -/
theorem dig_nil (i : Nat) : dig 0 i = 0 := by unfold dig; simp
theorem dy (A x i : Nat) : dig A i * x + mcar 0 A x i = dig (A * x) i + W * mcar 0 A x (i + 1) := by
 have := bD 0 A x i
 rw [dig_nil, Nat.zero_add, Nat.zero_add] at this; exact this
theorem take_word {x y c t u : Nat} (hx : x < W) (hy : y < W) (hc : c < W) (ht : t < W) (he : y * x + c = t + W * u) :
  (x * y % 18446744073709551616 + c + 0) % 18446744073709551616 = t ∧ x * y / 18446744073709551616 + (x * y % 18446744073709551616 + c + 0) / 18446744073709551616 = u ∧ u < 18446744073709551616 := by
 have hxy : x * y ≤ 18446744073709551615 * 18446744073709551615 := Nat.mul_le_mul (by unfold W at hx; omega) (by unfold W at hy; omega)
 rw [Nat.mul_comm y x] at he
 generalize x * y = p at *
 unfold W at *
 omega
theorem dig_mod {X i j : Nat} (h : j < i) : dig (X % W ^ i) j = dig X j := by
 obtain ⟨k, rfl⟩ : ∃ k, i = j + 1 + k := ⟨i - (j + 1), by omega⟩
 rw [dig, dig, Nat.add_assoc, Nat.pow_add, Nat.mod_mul_right_div_self, Nat.pow_add, Nat.pow_one, Nat.mod_mul_right_mod]
theorem cX {i k : Nat} (h : i ≤ k) : W ^ k = W ^ i * W ^ (k - i) := by rw [← Nat.pow_add]; congr 1; omega
theorem dig_add_high {w k i : Nat} (h : i < k) : dig (w + W ^ k) i = dig w i := by
 rw [dig, dig, cX (Nat.le_of_lt h), Nat.add_mul_div_left _ _ (zW i), cX (show 1 ≤ k - i by omega), Nat.pow_one, Nat.add_mul_mod_self_left]
theorem bor_add_high {w p k i : Nat} (h : i ≤ k) : bor (w + W ^ k) p i = bor w p i := by
 unfold bor; rw [cX h, Nat.add_mul_mod_self_left]
def vr (w p k : Nat) : Nat := (w + W ^ k - p) % W ^ k
theorem wd_dig {w p k i : Nat} (hp : p < W ^ k) (h : i < k) : (dig w i + W - dig p i - bor w p i) % W = dig (vr w p k) i := by
 have := sub_dig (p := w + W ^ k) (q := p) (by omega) i
 rw [dig_add_high h, bor_add_high (Nat.le_of_lt h)] at this
 rw [this, vr, dig_mod h]
theorem bor_top {w p k : Nat} (hw : w < W ^ k) (hp : p < W ^ k) : bor w p k = if w < p then 1 else 0 := by
 unfold bor; rw [Nat.mod_eq_of_lt hw, Nat.mod_eq_of_lt hp]
theorem aF (N o D : Nat) : (N % W ^ o + W ^ o * D) / W ^ o = D := by
 rw [Nat.add_mul_div_left _ _ (zW o), Nat.div_eq_of_lt (Nat.mod_lt _ (zW o)), Nat.zero_add]
theorem ee (N o D : Nat) : (N % W ^ o + W ^ o * D) % W ^ o = N % W ^ o := by rw [Nat.add_mul_mod_self_left, Nat.mod_mod]
theorem ef {N m o i d D : Nat} (h : o + i < m) (hd : d = dig D i) : (mix (o + i) (N % W ^ o + W ^ o * D) N m).set (o + i) d = mix (o + (i + 1)) (N % W ^ o + W ^ o * D) N m :=
 bZ h rfl (by rw [hd, vM _ _ _ _ (aF _ _ _)])
theorem winEnd {N m o k D : Nat} (hm : o + k ≤ m) (hn : N / W ^ o < W ^ k) (hD : D < W ^ k) : mix (o + k) (N % W ^ o + W ^ o * D) N m = zI m (N % W ^ o + W ^ o * D) := by
 refine ba hm ?_
 rw [vz, vz, aF, Nat.div_eq_of_lt hn, Nat.div_eq_of_lt hD]
theorem wdiff_lt (w p k : Nat) : vr w p k < W ^ k := Nat.mod_lt _ (zW k)
theorem mcar_top {v q k : Nat} (hv : v < W ^ k) (hq : q < W) : mcar 0 v q k = dig (v * q) k := by
 have h := bX (n := 0) (x := q) (zW k) hv
 rw [Nat.zero_add] at h
 rw [jp, h, Nat.mod_eq_of_lt (Nat.lt_of_le_of_lt (aK _ _ _ _) hq)]
theorem vq_lt {v q k : Nat} (hv : v < W ^ k) (hq : q < W) : v * q < W ^ (k + 1) := by rw [Nat.pow_succ]; exact Nat.mul_lt_mul'' hv hq
theorem rowGet' {N' N m o i j : Nat} (h : i ≤ j) (hj : o + j < m) : (mix (o + i) N' N m).getD (o + j) 0 = dig (N / W ^ o) j := by
 rw [mix_getD (Nat.add_le_add_left h o) hj, vM _ _ _ _ rfl]
theorem takeTop {w v q k : Nat} (hv : v < W ^ k) (hq : q < W) : (dig w k + W - mcar 0 v q k - bor w (v * q) k) % W = dig (vr w (v * q) (k + 1)) k := by
 rw [mcar_top hv hq]; exact wd_dig (vq_lt hv hq) (Nat.lt_succ_self k)
theorem takeBor {w v q k : Nat} (hv : v < W ^ k) (hq : q < W) (hw : w < W ^ (k + 1)) : (!decide ((if dig w k < mcar 0 v q k + bor w (v * q) k then 1 else 0) = 0)) = decide (w < v * q) := by
 rw [mcar_top hv hq, aV, bor_top hw (vq_lt hv hq)]
 by_cases h : w < v * q <;> simp [h]
def wsum (w p k : Nat) : Nat := (w + p) % W ^ k
theorem wsum_lt (w p k : Nat) : wsum w p k < W ^ k := Nat.mod_lt _ (zW k)
theorem ws_dig {w p k i : Nat} (h : i < k) : (dig w i + dig p i + car w p i) % W = dig (wsum w p k) i := by rw [add_dig, wsum, dig_mod h]
theorem backTop {w v k : Nat} (hv : v < W ^ k) : (dig w k + car w v k) % W = dig (wsum w v (k + 1)) k := by
 have h := ws_dig (w := w) (p := v) (Nat.lt_succ_self k)
 rw [show dig v k = 0 from by rw [dig, Nat.div_eq_of_lt hv]; rfl, Nat.add_zero] at h
 exact h
end Go.Nt
namespace Go.Nt
set_option maxRecDepth 8000
theorem top2 {v k : Nat} (hv : v < W ^ (k + 2)) : v / W ^ k = dig v (k + 1) * 18446744073709551616 + dig v k := by
 have h1 := ql v k
 have h2 : v / W ^ (k + 1) < W := by rw [Nat.div_lt_iff_lt_mul (zW _)]; rwa [Nat.mul_comm, ← Nat.pow_succ]
 rw [h1, jp v (k + 1), Nat.mod_eq_of_lt h2, Nat.mul_comm]
theorem top3 {w k : Nat} (hw : w < W ^ (k + 3)) : w / W ^ k = (dig w (k + 2) * 18446744073709551616 + dig w (k + 1)) * 18446744073709551616 + dig w k := by
 have h1 := ql w k
 rw [h1, top2 (k := k + 1) hw, Nat.mul_comm]
theorem guess_near {w v k : Nat} (hv : v < W ^ (k + 2)) (hv1 : W ^ (k + 1) ≤ v) (hw : w < v * W) :
  w / v ≤ gss (dig w (k + 2)) (dig w (k + 1)) (dig w k) (dig v (k + 1)) (dig v k) ∧ gss (dig w (k + 2)) (dig w (k + 1)) (dig w k) (dig v (k + 1)) (dig v k) ≤ w / v + 1 := by
 have hv0 : 0 < v := Nat.lt_of_lt_of_le (zW _) hv1
 have hw3 : w < W ^ (k + 3) := Nat.lt_of_lt_of_le hw (by rw [Nat.pow_succ W (k + 2)]; exact Nat.mul_le_mul_right _ (Nat.le_of_lt hv))
 unfold gss
 rw [← top3 hw3, ← top2 hv]
 have hR := zW k
 have hVW : W ≤ v / W ^ k := by rw [Nat.le_div_iff_mul_le hR, Nat.mul_comm, ← Nat.pow_succ]; exact hv1
 have hq : w / v < W := by rw [Nat.div_lt_iff_lt_mul hv0, Nat.mul_comm]; exact hw
 constructor
 ·refine Nat.le_min.2 ⟨?_, by unfold W at hq; omega⟩
  rw [Nat.le_div_iff_mul_le (Nat.lt_of_lt_of_le (by decide) hVW), Nat.le_div_iff_mul_le hR, Nat.mul_assoc]
  exact Nat.le_trans (Nat.mul_le_mul_left _ (Nat.div_mul_le_self v _)) (Nat.div_mul_le_self w v)
 ·generalize hg : min (w / W ^ k / (v / W ^ k)) 18446744073709551615 = g
  have hg1 : g ≤ w / W ^ k / (v / W ^ k) := hg ▸ Nat.min_le_left _ _
  have hg2 : g ≤ 18446744073709551615 := hg ▸ Nat.min_le_right _ _
  rcases Nat.eq_zero_or_pos g with h0 | h0
  ·rw [h0]; exact Nat.zero_le _
  have h1 : g * (v / W ^ k) ≤ w / W ^ k := (Nat.le_div_iff_mul_le (Nat.lt_of_lt_of_le (by decide) hVW)).1 hg1
  have h2 : g * (v / W ^ k) * W ^ k ≤ w := Nat.le_trans (Nat.mul_le_mul_right _ h1) (Nat.div_mul_le_self w _)
  have h3 : v < (v / W ^ k + 1) * W ^ k := by
   have := Nat.div_add_mod v (W ^ k)
   have := Nat.mod_lt v hR
   rw [Nat.add_mul, Nat.mul_comm]; omega
  have h4 : (g - 1) * v ≤ w := by
   have h5 : (g - 1) * v ≤ (g - 1) * ((v / W ^ k + 1) * W ^ k) := Nat.mul_le_mul_left _ (Nat.le_of_lt h3)
   refine Nat.le_trans h5 (Nat.le_trans ?_ h2)
   rw [← Nat.mul_assoc]
   refine Nat.mul_le_mul_right _ ?_
   obtain ⟨t, rfl⟩ : ∃ t, g = t + 1 := ⟨g - 1, by omega⟩
   rw [Nat.add_sub_cancel, Nat.mul_add, Nat.succ_mul, Nat.mul_one]
   have : t ≤ v / W ^ k := Nat.le_trans (by unfold W; omega) hVW
   omega
  have := (Nat.le_div_iff_mul_le hv0).2 h4
  omega
def left (N v k : Nat) : Nat := N % W ^ k + W ^ k * (N / W ^ k % v)
theorem left_top {N v k : Nat} (h : N < v * W ^ k) : left N v k = N := by
 have h1 : N / W ^ k < v := by rw [Nat.div_lt_iff_lt_mul (zW k)]; exact h
 unfold left; rw [Nat.mod_eq_of_lt h1, Nat.mod_add_div]
theorem left_win {N v j : Nat} : left N v (j + 1) / W ^ j = N / W ^ (j + 1) % v * 18446744073709551616 + dig N j := by
 unfold left
 rw [jS, Nat.pow_succ, Nat.mul_assoc, Nat.add_assoc, ← Nat.mul_add, aF, Nat.add_comm, Nat.mul_comm W]
theorem left_low {N v j : Nat} : left N v (j + 1) % W ^ j = N % W ^ j := by
 unfold left
 rw [jS, Nat.pow_succ, Nat.mul_assoc, Nat.add_assoc, ← Nat.mul_add, Nat.add_mul_mod_self_left, Nat.mod_mod]
theorem left_step {N v j : Nat} (hv : 0 < v) : left N v (j + 1) / W ^ j / v = dig (N / v) j ∧ left N v (j + 1) / W ^ j % v = N / W ^ j % v ∧ left N v (j + 1) / W ^ j < v * W := by
 have h := cF (A := N) (x := v) (k := j + 1) hv (by omega)
 rw [left_win]
 simp only [Nat.add_sub_cancel] at h
 refine ⟨h.1, h.2, ?_⟩
 have h1 := Nat.mod_lt (N / W ^ (j + 1)) hv
 have h2 := qR N j
 have h3 : (N / W ^ (j + 1) % v + 1) * W ≤ v * W := Nat.mul_le_mul_right _ h1
 rw [Nat.add_mul, Nat.one_mul] at h3
 show N / W ^ (j + 1) % v * W + _ < _
 omega
theorem take_fine {w v g K : Nat} (hv : 0 < v) (hw : w < K) (h1 : w / v ≤ g) (h : ¬ w < v * g) : g = w / v ∧ (w + K - v * g) % K = w % v := by
 have h2 : g ≤ w / v := (Nat.le_div_iff_mul_le hv).2 (by rw [Nat.mul_comm]; omega)
 obtain rfl : g = w / v := Nat.le_antisymm h2 h1
 refine ⟨rfl, ?_⟩
 have h3 := Nat.div_add_mod w v
 have e : w + K - v * (w / v) = w % v + K := by omega
 rw [e, Nat.add_mod_right, Nat.mod_eq_of_lt (Nat.lt_of_le_of_lt (Nat.mod_le _ _) hw)]
theorem take_back {w v g K : Nat} (hv : 0 < v) (hw : w < K) (hg : v * g < K) (h1 : g ≤ w / v + 1) (h : w < v * g) : g - 1 = w / v ∧ 1 ≤ g ∧ ((w + K - v * g) % K + v) % K = w % v := by
 have h2 : w / v < g := by rw [Nat.div_lt_iff_lt_mul hv, Nat.mul_comm]; exact h
 obtain rfl : g = w / v + 1 := Nat.le_antisymm h1 h2
 refine ⟨Nat.add_sub_cancel _ _, Nat.le_add_left _ _, ?_⟩
 have h3 := Nat.div_add_mod w v
 rw [Nat.mul_add, Nat.mul_one] at h hg ⊢
 have h4 := Nat.mod_lt w hv
 have h5 : w + K - (v * (w / v) + v) < K := by omega
 rw [Nat.mod_eq_of_lt h5]
 have e : w + K - (v * (w / v) + v) + v = w % v + K := by omega
 rw [e, Nat.add_mod_right, Nat.mod_eq_of_lt (Nat.lt_of_le_of_lt (Nat.mod_le _ _) hw)]
theorem eA {A Q m k d : Nat} (hk : 0 < k) (hm : k ≤ m) (hd : d = dig Q (k - 1)) : (mix k A Q m).set (k - 1) d = mix (k - 1) A Q m := by
 have := mix_down (A := A) (j := 0) hk hm hd
 simpa using this
theorem outStart (Q t : Nat) : List.replicate t 0 = mix t 0 Q t := by
 have : List.replicate t 0 = zI t 0 := xf (fun x hx => by rw [List.mem_replicate] at hx; rw [hx.2]; decide) (by simp) (by rw [xK]; simp)
 rw [this]; unfold mix; rw [Nat.sub_self]; simp [zI]
theorem outEnd (Q t : Nat) : mix 0 0 Q t = zI t Q := by simp [mix, zI]
theorem getW {N m j i t : Nat} (ht : t = j + i) (h : t < m) : (zI m N).getD t 0 = dig (N / W ^ j) i := by
 subst ht; rw [vH h, vM _ _ _ _ rfl]
theorem getV {v i t : Nat} (ht : t = i) : (zA v).getD t 0 = dig v i := by subst ht; exact zZ _ _
structure Rnd (N v j k g : Nat) : Prop where
 hd : 0 < dig v (k + 1)
 hw : left N v (j + 1) / W ^ j < W ^ ((List.length (zA v)) + 1)
 fine : ¬ left N v (j + 1) / W ^ j < v * g → g = dig (N / v) j ∧ left N v (j + 1) % W ^ j + W ^ j * vr (left N v (j + 1) / W ^ j) (v * g) ((List.length (zA v)) + 1) = left N v j
 bk : left N v (j + 1) / W ^ j < v * g → g - 1 = dig (N / v) j ∧ 1 ≤ g ∧ (left N v (j + 1) % W ^ j + W ^ j * vr (left N v (j + 1) / W ^ j) (v * g) ((List.length (zA v)) + 1)) % W ^ j + W ^ j * wsum ((left N v (j + 1) % W ^ j + W ^ j * vr (left N v (j + 1) / W ^ j) (v * g) ((List.length (zA v)) + 1)) / W ^ j) v ((List.length (zA v)) + 1) = left N v j
theorem round {N v j k g : Nat} (hk : (List.length (zA v)) = k + 2) (hg : g = gss (dig (left N v (j + 1) / W ^ j) (k + 2)) (dig (left N v (j + 1) / W ^ j) (k + 1)) (dig (left N v (j + 1) / W ^ j) k) (dig v (k + 1)) (dig v k)) (hgl : g < W) : Rnd N v j k g := by
 have hv0 : v ≠ 0 := by intro e; subst e; rw [fB] at hk; omega
 have hv1 : W ^ (k + 1) ≤ v := by have := cj hv0; rwa [hk] at this
 have hv2 : v < W ^ (k + 2) := by have := qV v; rwa [hk] at this
 have hpos : 0 < v := Nat.pos_of_ne_zero hv0
 obtain ⟨h1, h2, h3⟩ := left_step (N := N) (j := j) hpos
 have hgn := guess_near hv2 hv1 h3
 rw [← hg] at hgn
 have hw : left N v (j + 1) / W ^ j < W ^ ((List.length (zA v)) + 1) := Nat.lt_of_lt_of_le h3 (by rw [hk, Nat.pow_succ W (k + 2)]; exact Nat.mul_le_mul_right _ (Nat.le_of_lt hv2))
 have hvg : v * g < W ^ ((List.length (zA v)) + 1) := vq_lt (qV v) hgl
 refine ⟨?_, hw, fun h => ?_, fun h => ?_⟩
 ·have := aR hv0
  rw [hk] at this
  exact Nat.pos_of_ne_zero this
 ·obtain ⟨e1, e2⟩ := take_fine hpos hw hgn.1 h
  refine ⟨e1.trans h1, ?_⟩
  unfold vr
  rw [e2, left_low, h2]; rfl
 ·obtain ⟨e1, e2, e3⟩ := take_back hpos hw hvg hgn.2 h
  refine ⟨e1.trans h1, e2, ?_⟩
  rw [ee, aF, left_low]
  unfold vr wsum
  rw [e3, h2]; rfl
theorem gss_lt (u2 u1 u0 v1 v0 : Nat) : gss u2 u1 u0 v1 v0 < 18446744073709551616 := Nat.lt_succ_of_le (Nat.min_le_right _ _)
theorem di {m a b : Nat} (h : a = b) : zI m a = zI m b := by rw [h]
end Go.Nt
namespace Go.Nt
theorem top_div {B n : Nat} (hn : (List.length (zA B)) = n + 1) : B / W ^ n = dig B n := by
 have hB : B < W ^ (n + 1) := hn ▸ qV B
 rw [jp, Nat.mod_eq_of_lt]
 rw [Nat.div_lt_iff_lt_mul (zW _), Nat.mul_comm, ← Nat.pow_succ]; exact hB
theorem shift_fits {B k : Nat} (h : B ≠ 0) (hk : k = 64 - bitLen (dig B ((List.length (zA B)) - 1))) : (List.length (zA (B * 2 ^ k))) = (List.length (zA B)) := by
 have hl := lead (qR B ((List.length (zA B)) - 1)) (aR h) hk
 obtain ⟨n, hn⟩ : ∃ n, (List.length (zA B)) = n + 1 := ⟨(List.length (zA B)) - 1, by have := vj h; omega⟩
 have hd := top_div hn
 rw [hn, Nat.add_sub_cancel] at hl
 rw [← hd] at hl
 have hk64 : k ≤ 64 := by omega
 have hp : 0 < 2 ^ k := Nat.pow_pos (by decide)
 have h1 : B < (B / W ^ n + 1) * W ^ n := by
  have := Nat.div_add_mod B (W ^ n)
  have := Nat.mod_lt B (zW n)
  rw [Nat.add_mul, Nat.mul_comm (B / W ^ n)]; omega
 have h23 : ∀ t : Nat, t * 2 ^ k < 18446744073709551616 → (t + 1) * 2 ^ k ≤ W := fun t h4 => by
  rw [show (18446744073709551616 : Nat) = W from rfl, ← bA hk64] at h4
  have := Nat.mul_le_mul_right (2 ^ k) (Nat.lt_of_mul_lt_mul_right h4)
  rwa [bA hk64] at this
 have h3 := h23 _ hl.2
 have h4 : B * 2 ^ k < W ^ (n + 1) := by
  calc B * 2 ^ k < (B / W ^ n + 1) * W ^ n * 2 ^ k := Nat.mul_lt_mul_of_pos_right h1 hp
   _ = (B / W ^ n + 1) * 2 ^ k * W ^ n := by rw [Nat.mul_right_comm]
   _ ≤ W * W ^ n := Nat.mul_le_mul_right _ h3
   _ = W ^ (n + 1) := by rw [Nat.pow_succ, Nat.mul_comm]
 have h5 := wq h4
 have h6 := ze (Nat.le_mul_of_pos_right B hp)
 omega
theorem lead_lt {B k : Nat} (h : B ≠ 0) (hk : k = 64 - bitLen (dig B ((List.length (zA B)) - 1))) : k < 64 := by
 have := vp (aR h); omega
theorem dp {A k : Nat} (hk : k < 64) : (List.length (zA (A * 2 ^ k))) ≤ (List.length (zA A)) + 1 := by
 apply wq
 have h1 := qV A
 have h2 : 2 ^ k ≤ W := by have : 2 ^ k ≤ 2 ^ 64 := Nat.pow_le_pow_right (by decide) (by omega); exact this
 calc A * 2 ^ k < W ^ (List.length (zA A)) * 2 ^ k := Nat.mul_lt_mul_of_pos_right h1 (Nat.pow_pos (by decide))
  _ ≤ W ^ (List.length (zA A)) * W := Nat.mul_le_mul_left _ h2
  _ = W ^ ((List.length (zA A)) + 1) := by rw [Nat.pow_succ]
theorem copy_words {N m : Nat} (h : (List.length (zA N)) ≤ m) : (List.replicate m 0).take 0 ++ zA N ++ (List.replicate m 0).drop (0 + (List.length (zA N))) = zI m N := by
 refine xf ?_ ?_ ?_
 ·rw [List.take_zero, List.nil_append]
  refine dx (jy N) (fun x hx => ?_)
  have := List.mem_of_mem_drop hx
  rw [List.mem_replicate] at this
  rw [this.2]; decide
 ·simp; omega
 ·rw [List.take_zero, List.nil_append, ve, List.drop_replicate, xK, Nat.mul_zero, Nat.add_zero, zC, Nat.mod_eq_of_lt (xd h)]
theorem eE {A B : Nat} (hB : B ≠ 0) (h : (List.length (zA B)) ≤ (List.length (zA A)) + 1) : A < B * W ^ ((List.length (zA A)) + 1 - (List.length (zA B))) := by
 have h1 := cj hB
 have hp := vj hB
 calc A < W ^ (List.length (zA A)) := qV A
  _ = W ^ ((List.length (zA B)) - 1) * W ^ ((List.length (zA A)) + 1 - (List.length (zA B))) := by rw [← Nat.pow_add]; congr 1; omega
  _ ≤ B * W ^ ((List.length (zA A)) + 1 - (List.length (zA B))) := Nat.mul_le_mul_right _ h1
structure Dm (A B k : Nat) : Prop where
 k64 : k < 64
 v : (List.length (zA (B * 2 ^ k))) = (List.length (zA B))
 w : (List.length (zA (A * 2 ^ k))) ≤ (List.length (zA A)) + 1
 lt : A * 2 ^ k < B * 2 ^ k * W ^ ((List.length (zA A)) + 1 - (List.length (zA (B * 2 ^ k))))
 le : (List.length (zA B)) ≤ (List.length (zA A))
theorem dm {A B k : Nat} (hB : B ≠ 0) (hle : B ≤ A) (hk : k = 64 - bitLen (dig B ((List.length (zA B)) - 1))) : Dm A B k := by
 have h1 := lead_lt hB hk
 have h2 := shift_fits hB hk
 have h3 := ze hle
 refine ⟨h1, h2, dp h1, ?_, h3⟩
 rw [h2, Nat.mul_right_comm]
 exact Nat.mul_lt_mul_of_pos_right (eE hB (by omega)) (Nat.pow_pos (by decide))
theorem dm_quo {A B k m n : Nat} (hB : B ≠ 0) (D : Dm A B k) (hm : m = (List.length (zA A)) + 1) (hn : n = (List.length (zA (B * 2 ^ k)))) : zA (val (zI (m - n) (A * 2 ^ k / (B * 2 ^ k)))) = zA (A / B) := by
 subst hm; subst hn
 have hp : 0 < 2 ^ k := Nat.pow_pos (by decide)
 rw [Nat.mul_div_mul_right _ _ hp, qN]
 rw [D.v, Nat.div_lt_iff_lt_mul (by omega), Nat.mul_comm]
 exact eE hB (by have := D.le; omega)
theorem dm_rest {A B k m : Nat} (hB : B ≠ 0) (D : Dm A B k) (hm : m = (List.length (zA A)) + 1) : val (zI m (left (A * 2 ^ k) (B * 2 ^ k) 0)) / 2 ^ k = A % B := by
 subst hm
 have hp : 0 < 2 ^ k := Nat.pow_pos (by decide)
 have e : left (A * 2 ^ k) (B * 2 ^ k) 0 = A % B * 2 ^ k := by
  unfold left
  rw [Nat.pow_zero, Nat.mod_one, Nat.div_one, Nat.zero_add, Nat.one_mul, Nat.mul_mod_mul_right]
 rw [e, xD, Nat.mod_eq_of_lt, Nat.mul_div_cancel _ hp]
 refine Nat.lt_of_le_of_lt (Nat.mul_le_mul_right _ (Nat.mod_le A B)) (xd D.w)
theorem wn (m N : Nat) : (List.length (zA (val (zI m N)))) ≤ m := by
 have := aj (vY m N); rwa [zV] at this
/-! ### bits -/
theorem bitLen_uniq {n k : Nat} (h1 : n < 2 ^ k) (h2 : n ≠ 0 → 2 ^ (k - 1) ≤ n) (h0 : n = 0 → k = 0) : bitLen n = k := by
 have h := bitLen_spec n
 by_cases hn : n = 0
 ·rw [h0 hn]; subst hn; rfl
 have a := h.2 hn
 have b := h2 hn
 have c := h.1
 have p := vp hn
 have hk : 0 < k := by
  rcases Nat.eq_zero_or_pos k with e | e
  ·subst e; simp at h1; omega
  ·exact e
 have e1 : bitLen n - 1 < k := (Nat.pow_lt_pow_iff_right (by decide : 1 < 2)).1 (Nat.lt_of_le_of_lt a h1)
 have e2 : k - 1 < bitLen n := (Nat.pow_lt_pow_iff_right (by decide : 1 < 2)).1 (Nat.lt_of_le_of_lt b c)
 omega
theorem W_pow (n : Nat) : W ^ n = 2 ^ (64 * n) := by rw [Nat.pow_mul]
theorem bits_words {A : Nat} (h : A ≠ 0) : 64 * ((List.length (zA A)) - 1) + bitLen (dig A ((List.length (zA A)) - 1)) = bitLen A := by
 obtain ⟨n, hn⟩ : ∃ n, (List.length (zA A)) = n + 1 := ⟨(List.length (zA A)) - 1, by have := vj h; omega⟩
 have hd := top_div hn
 have ht := aR h
 rw [hn, Nat.add_sub_cancel] at *
 obtain ⟨t, hte⟩ : ∃ t, t = dig A n := ⟨_, rfl⟩
 rw [← hte] at ht hd ⊢
 have hs := bitLen_spec t
 have hp := vp ht
 have e := Nat.div_add_mod A (W ^ n)
 have hm := Nat.mod_lt A (zW n)
 rw [hd] at e
 generalize A % W ^ n = low at *
 symm
 apply bitLen_uniq
 ·rw [Nat.pow_add, ← W_pow]
  have : W ^ n * (t + 1) ≤ W ^ n * 2 ^ bitLen t := Nat.mul_le_mul_left _ hs.1
  rw [Nat.mul_add] at this; omega
 ·intro _
  rw [Nat.add_sub_assoc (by omega), Nat.pow_add, ← W_pow]
  have : W ^ n * 2 ^ (bitLen t - 1) ≤ W ^ n * t := Nat.mul_le_mul_left _ (hs.2 ht)
  omega
 ·intro h0; exact absurd h0 h
theorem jZ {A : Nat} (h : (List.length (zA A)) = 0) : A = 0 := jg (List.eq_nil_of_length_eq_zero h)
/-! ### powers of two, as zA -/
/-! ### the root -/
end Go.Nt
namespace Go.Nt
abbrev D : Nat := 65536
def dval : List Nat → Nat
 | [] => 0
 | x :: xs => x + D * dval xs
end Go.Nt
namespace Go.Nt
def zv (n : Bool) (xs : List Nat) : Int := if n = true then -(val xs : Int) else (val xs : Int)
theorem zH (z : Int) : zv (decide (z < 0)) (zA z.natAbs) = z := by
 unfold zv
 rw [zC]
 by_cases h : z < 0
 ·rw [decide_eq_true h, if_pos rfl]; omega
 ·rw [decide_eq_false h, if_neg (by decide)]; omega
theorem vN (n : Bool) (xs : List Nat) : (zv n xs).natAbs = val xs := by unfold zv; split <;> omega
theorem zv_neg (n : Bool) (xs : List Nat) : decide (zv n xs < 0) = (n && decide (val xs ≠ 0)) := by
 unfold zv
 cases n
 ·rw [if_neg (by decide), Bool.false_and]; exact decide_eq_false (by omega)
 ·rw [if_pos rfl, Bool.true_and]; exact decide_eq_decide.2 (by omega)
theorem xZ (n : Bool) (xs : List Nat) : (List.length (zA (zv n xs).natAbs)) = (List.length (zA (val xs))) := by rw [vN]
theorem bt (xs : List Nat) : zv false xs = (val xs : Int) := by unfold zv; rw [if_neg (by decide)]
theorem zv_not (n : Bool) (xs : List Nat) : zv (!n) xs = - zv n xs := by
 unfold zv; cases n <;> simp
def sgn (z : Int) : Int := if z = 0 then 0 else if z < 0 then -1 else 1
def cmpZ (x y : Int) : Int := if x < y then -1 else if y < x then 1 else 0
theorem zv_add_same {m n : Bool} (h : m = n) (xs ys : List Nat) : zv m xs + zv n ys = zv m (zA (val xs + val ys)) := by
 subst h; unfold zv; rw [zC]; cases m <;> simp <;> omega
theorem bu {m n : Bool} (h : m ≠ n) {xs ys : List Nat} (hle : val ys ≤ val xs) : zv m xs + zv n ys = zv m (zA (val xs - val ys)) := by
 unfold zv; rw [zC]; cases m <;> cases n <;> simp at h ⊢ <;> omega
theorem zv_mul (m n : Bool) (xs ys : List Nat) : zv m xs * zv n ys = zv (!(m == n)) (zA (val xs * val ys)) := by
 unfold zv; rw [zC]; cases m <;> cases n <;> simp [Int.neg_mul, Int.mul_neg]
theorem zv_tdiv (m n : Bool) (xs ys : List Nat) : (zv m xs).tdiv (zv n ys) = zv (!(m == n)) (zA (val xs / val ys)) := by
 have h : ((val xs : Int)).tdiv (val ys : Int) = ((val xs / val ys : Nat) : Int) := Int.ofNat_tdiv _ _ ▸ rfl
 unfold zv; rw [zC]; cases m <;> cases n <;> simp [Int.neg_tdiv, Int.tdiv_neg, h]
theorem zv_tmod (m n : Bool) (xs ys : List Nat) : (zv m xs).tmod (zv n ys) = zv m (zA (val xs % val ys)) := by
 have h : ((val xs : Int)).tmod (val ys : Int) = ((val xs % val ys : Nat) : Int) := Int.ofNat_tmod _ _ ▸ rfl
 unfold zv; rw [zC]; cases m <;> cases n <;> simp [Int.neg_tmod, Int.tmod_neg, h]
end Go.Nt
namespace Go.Nt
theorem va (a b : Nat) : (List.length (zA (a + b))) ≤ max ((List.length (zA a))) ((List.length (zA b))) + 1 := wq (add_lt (xd (Nat.le_max_left _ _)) (xd (Nat.le_max_right _ _)))
theorem jQ (a b : Nat) : (List.length (zA (a * b))) ≤ (List.length (zA a)) + (List.length (zA b)) := wq (by rw [Nat.pow_add]; exact Nat.mul_lt_mul_of_lt_of_lt (qV a) (qV b))
theorem xU (x y : Int) : (List.length (zA (x + y).natAbs)) ≤ max ((List.length (zA x.natAbs))) ((List.length (zA y.natAbs))) + 1 := Nat.le_trans (ze (Int.natAbs_add_le x y)) (va _ _)
theorem nz_sub (x y : Int) : (List.length (zA (x - y).natAbs)) ≤ max ((List.length (zA x.natAbs))) ((List.length (zA y.natAbs))) + 1 := by
 have := xU x (-y); rwa [Int.natAbs_neg, ← Int.sub_eq_add_neg] at this
theorem qD (x y : Int) : (List.length (zA (x * y).natAbs)) ≤ (List.length (zA x.natAbs)) + (List.length (zA y.natAbs)) := by rw [Int.natAbs_mul]; exact jQ _ _
theorem vu (x y : Int) : (List.length (zA (x.tdiv y).natAbs)) ≤ (List.length (zA x.natAbs)) := by rw [Int.natAbs_tdiv]; exact ze (Nat.div_le_self _ _)
theorem nz_tmod (x y : Int) : (List.length (zA (x.tmod y).natAbs)) ≤ (List.length (zA x.natAbs)) := by rw [Int.natAbs_tmod]; exact ze (Nat.mod_le _ _)
theorem fC : (List.length (zA 1)) = 1 := by rw [ay (by decide)]; rfl
theorem zz {n : Nat} (h : n < 18446744073709551616) : (List.length (zA n)) ≤ 1 := wq (by simpa using h)
/-! ### rests from 0 on -/
theorem wu (a b : Int) : (0 ≤ a.tmod b → a.tdiv b = a / b ∧ a.tmod b = a % b) ∧
  (a.tmod b < 0 → (0 < b → a.tdiv b - 1 = a / b ∧ a.tmod b + b = a % b) ∧ (b < 0 → a.tdiv b + 1 = a / b ∧ a.tmod b - b = a % b)) := by
 rcases Int.lt_trichotomy b 0 with hb | hb | hb
 ·have h1 := Int.emod_nonneg a (show b ≠ 0 by omega)
  have h3 := Int.emod_lt_of_pos a (show 0 < -b by omega)
  rw [Int.emod_neg] at h3
  have h4 := Int.tmod_eq_emod (a := a) (b := b)
  have h5 := Int.tdiv_eq_ediv (a := a) (b := b)
  have h6 := Int.sign_eq_neg_one_of_neg hb
  split at h4
  ·rename_i h; rw [if_pos h] at h5; refine ⟨fun _ => ⟨by omega, by omega⟩, fun h7 => ⟨fun h8 => by omega, fun _ => by omega⟩⟩
  ·rename_i h; rw [if_neg h, h6] at h5
   refine ⟨fun h7 => ?_, fun h7 => ⟨fun h8 => by omega, fun _ => by omega⟩⟩
   omega
 ·subst hb; simp
 ·have h1 := Int.emod_nonneg a (show b ≠ 0 by omega)
  have h3 := Int.emod_lt_of_pos a hb
  have h4 := Int.tmod_eq_emod (a := a) (b := b)
  have h5 := Int.tdiv_eq_ediv (a := a) (b := b)
  have h6 := Int.sign_eq_one_of_pos hb
  split at h4
  ·rename_i h; rw [if_pos h] at h5; refine ⟨fun _ => ⟨by omega, by omega⟩, fun h7 => ⟨fun h8 => by omega, fun _ => by omega⟩⟩
  ·rename_i h; rw [if_neg h, h6] at h5
   refine ⟨fun h7 => ?_, fun h7 => ⟨fun h8 => by omega, fun _ => by omega⟩⟩
   omega
/-! ### the greatest common divisor -/
def cof (a b x next : Int) : Int × Int := if h : b = 0 then (if a < 0 then (-a, -x) else (a, x)) else cof b (a.tmod b) next (x - a.tdiv b * next)
termination_by b.natAbs
decreasing_by
 rw [Int.natAbs_tmod]; exact Nat.mod_lt _ (by omega)
theorem wK (a x next : Int) : cof a 0 x next = if a < 0 then (-a, -x) else (a, x) := by rw [cof, dif_pos rfl]
theorem cof_step {b : Int} (h : b ≠ 0) (a x next : Int) : cof a b x next = cof b (a.tmod b) next (x - a.tdiv b * next) := by rw [cof, dif_neg h]
structure Cf (A B a b x next : Int) (X Y : Nat) : Prop where
 g : Nat.gcd a.natAbs b.natAbs = Nat.gcd A.natAbs B.natAbs
 d1 : B ∣ a - x * A
 d2 : B ∣ b - next * A
 x : x.natAbs ≤ X
 y : next.natAbs ≤ Y
 s : Y * a.natAbs + X * b.natAbs = B.natAbs
 X1 : X ≤ max 1 B.natAbs
 Y1 : Y ≤ B.natAbs
 a1 : a.natAbs ≤ max A.natAbs B.natAbs
 b1 : b.natAbs ≤ B.natAbs
theorem Cf.start (A B : Int) : Cf A B A B 1 0 1 0 := by
 refine ⟨rfl, ?_, ?_, by decide, by decide, by omega, Nat.le_max_left _ _, Nat.zero_le _, Nat.le_max_left _ _, Nat.le_refl _⟩
 ·rw [Int.one_mul, Int.sub_self]; exact Int.dvd_zero _
 ·rw [Int.zero_mul, Int.sub_zero]; exact Int.dvd_refl _
theorem Cf.step {A B a b x next : Int} {X Y : Nat} (c : Cf A B a b x next X Y) (h : b ≠ 0) : Cf A B b (a.tmod b) next (x - a.tdiv b * next) Y (X + (a.tdiv b).natAbs * Y) := by
 have e1 := Int.tmod_add_mul_tdiv a b
 have e2 : a.natAbs = (a.tdiv b).natAbs * b.natAbs + (a.tmod b).natAbs := by
  rw [Int.natAbs_tdiv, Int.natAbs_tmod, Nat.mul_comm]; exact (Nat.div_add_mod _ _).symm
 have hb : 0 < b.natAbs := by omega
 have hs : (X + (a.tdiv b).natAbs * Y) * b.natAbs + Y * (a.tmod b).natAbs = B.natAbs := by
  rw [← c.s, e2, Nat.add_mul, Nat.mul_add, Nat.mul_right_comm, Nat.mul_comm Y ((a.tdiv b).natAbs * b.natAbs)]
  omega
 refine ⟨?_, c.d2, ?_, c.y, ?_, hs, Nat.le_trans c.Y1 (Nat.le_max_right _ _), ?_, Nat.le_trans c.b1 (Nat.le_max_right _ _), ?_⟩
 ·rw [← c.g, Int.natAbs_tmod, Nat.gcd_comm a.natAbs, Nat.gcd_rec b.natAbs a.natAbs, Nat.gcd_comm]
 ·have e3 : a.tmod b - (x - a.tdiv b * next) * A = (a - x * A) - a.tdiv b * (b - next * A) := by
   rw [Int.sub_mul, Int.mul_sub, Int.mul_assoc, Int.mul_comm (a.tdiv b) b]; omega
  rw [e3]; exact Int.dvd_sub c.d1 (Int.dvd_mul_of_dvd_right c.d2)
 ·refine Nat.le_trans (Int.natAbs_sub_le _ _) ?_
  rw [Int.natAbs_mul]
  exact Nat.add_le_add c.x (Nat.mul_le_mul_left _ c.y)
 ·have h1 := Nat.le_mul_of_pos_right (X + (a.tdiv b).natAbs * Y) hb
  omega
 ·rw [Int.natAbs_tmod]; exact Nat.le_trans (Nat.le_of_lt (Nat.mod_lt _ hb)) c.b1
theorem Cf.fin {A B a x next : Int} {X Y : Nat} (c : Cf A B a 0 x next X Y) : (cof a 0 x next).1 = (Nat.gcd A.natAbs B.natAbs : Nat) ∧ B ∣ (cof a 0 x next).1 - (cof a 0 x next).2 * A ∧ (cof a 0 x next).2.natAbs ≤ max 1 B.natAbs := by
 have hg := c.g
 rw [Int.natAbs_zero, Nat.gcd_zero_right] at hg
 have hx := Nat.le_trans c.x c.X1
 rw [wK]
 by_cases h : a < 0
 ·rw [if_pos h]
  refine ⟨by show -a = _; omega, ?_, by show (-x).natAbs ≤ _; rw [Int.natAbs_neg]; exact hx⟩
  show B ∣ -a - -x * A
  have : -a - -x * A = -(a - x * A) := by rw [Int.neg_mul]; omega
  rw [this]; exact Int.dvd_neg.2 c.d1
 ·rw [if_neg h]
  exact ⟨by show a = _; omega, c.d1, hx⟩
theorem bp (A B : Int) : (cof A B 1 0).1 = (Nat.gcd A.natAbs B.natAbs : Nat) ∧ B ∣ (cof A B 1 0).1 - (cof A B 1 0).2 * A ∧ (cof A B 1 0).2.natAbs ≤ max 1 B.natAbs := by
  have key : ∀ (n : Nat) (a b x next : Int) (X Y : Nat), b.natAbs = n → Cf A B a b x next X Y → (cof a b x next).1 = (Nat.gcd A.natAbs B.natAbs : Nat) ∧ B ∣ (cof a b x next).1 - (cof a b x next).2 * A ∧ (cof a b x next).2.natAbs ≤ max 1 B.natAbs := by
    intro n
    induction n using Nat.strongRecOn with
    | _ n ih =>
      intro a b x next X Y hn c
      by_cases h : b = 0
      · subst h; exact c.fin
      · rw [cof_step h]
        refine ih (a.tmod b).natAbs ?_ _ _ _ _ _ _ rfl (c.step h)
        rw [Int.natAbs_tmod, ← hn]; exact Nat.mod_lt _ (by omega)
  exact key _ _ _ _ _ _ _ rfl (Cf.start A B)
end Go.Nt
namespace Go.Nt
theorem bL (n : Bool) (xs : List Nat) : zv n xs = 0 ↔ val xs = 0 := by unfold zv; split <;> omega
theorem from_neg (m : Bool) (xs : List Nat) : (m && decide (0 < (((List.length (zA (val xs))) : Nat) : Int))) = decide (zv m xs < 0) := by
 rw [zv_neg]
 congr 1
 apply decide_eq_decide.2
 constructor
 ·intro h e; rw [e, zF] at h; simp at h
 ·intro h; have := vj h; omega
theorem we (m : Bool) (n : Nat) : zv m (zA n) = if m = true then -(n : Int) else (n : Int) := by unfold zv; rw [zC]
theorem neg_word {x : Int} (h : x < 0) (h2 : -9223372036854775808 ≤ x) : (18446744073709551616 - (x % 18446744073709551616).toNat) % 18446744073709551616 = x.natAbs := by omega
theorem sgn_zero {n : Bool} {xs : List Nat} (h : ((bitLen (val xs) : Nat) : Int) = 0) : 0 = sgn (zv n xs) := by
 have h2 : val xs = 0 := by
  rcases Nat.eq_zero_or_pos (val xs) with e | e
  ·exact e
  ·have := vp (x := val xs) (by omega); omega
 unfold sgn; rw [if_pos ((bL n xs).2 h2)]
theorem sgn_of {n : Bool} {xs : List Nat} (h : ¬ ((bitLen (val xs) : Nat) : Int) = 0) : (if n = true then -1 else 1) = sgn (zv n xs) := by
 have h2 : val xs ≠ 0 := fun e => h (by rw [e]; rfl)
 cases n
 ·have e : zv false xs = (val xs : Int) := bt xs
  show (1 : Int) = sgn (zv false xs)
  rw [e]; unfold sgn; rw [if_neg (by omega), if_neg (by omega)]
 ·have e : zv true xs = -(val xs : Int) := by unfold zv; rw [if_pos rfl]
  show (-1 : Int) = sgn (zv true xs)
  rw [e]; unfold sgn; rw [if_neg (by omega), if_pos (by omega)]
theorem zp (z : Int) : (sgn z = 0 ∧ z = 0) ∨ (sgn z = -1 ∧ z < 0) ∨ (sgn z = 1 ∧ 0 < z) := by
 unfold sgn; split
 ·exact .inl ⟨rfl, by assumption⟩
 ·split
  ·exact .inr (.inl ⟨rfl, by assumption⟩)
  ·exact .inr (.inr ⟨rfl, by omega⟩)
theorem ab (z : Int) : -1 ≤ sgn z ∧ sgn z ≤ 1 := by rcases zp z with h | h | h <;> omega
theorem cmpZ_lt {x y : Int} (h : sgn x < sgn y) : -1 = cmpZ x y := by
 have : x < y := by rcases zp x with h1 | h1 | h1 <;> rcases zp y with h2 | h2 | h2 <;> omega
 unfold cmpZ; rw [if_pos this]
theorem cmpZ_gt {x y : Int} (h : sgn y < sgn x) : 1 = cmpZ x y := by
 have : y < x := by rcases zp x with h1 | h1 | h1 <;> rcases zp y with h2 | h2 | h2 <;> omega
 unfold cmpZ; rw [if_neg (by omega), if_pos this]
theorem dH (a b : Nat) : (a < b ∧ cmpN a b = -1) ∨ (b < a ∧ cmpN a b = 1) ∨ (a = b ∧ cmpN a b = 0) := by
 unfold cmpN; split
 ·exact .inl ⟨by assumption, rfl⟩
 ·split
  ·exact .inr (.inl ⟨by assumption, rfl⟩)
  ·exact .inr (.inr ⟨by omega, rfl⟩)
theorem wx (x y : Int) : (x < y ∧ cmpZ x y = -1) ∨ (y < x ∧ cmpZ x y = 1) ∨ (x = y ∧ cmpZ x y = 0) := by
 unfold cmpZ; split
 ·exact .inl ⟨by assumption, rfl⟩
 ·split
  ·exact .inr (.inl ⟨by assumption, rfl⟩)
  ·exact .inr (.inr ⟨by omega, rfl⟩)
theorem cmpZ_neg {m n : Bool} {xs ys : List Nat} (h1 : sgn (zv m xs) < 0) (h2 : ¬ sgn (zv m xs) < sgn (zv n ys)) (h3 : ¬ sgn (zv n ys) < sgn (zv m xs)) : cmpN (val ys) (val xs) = cmpZ (zv m xs) (zv n ys) := by
 have hx := vN m xs
 have hy := vN n ys
 generalize zv m xs = x at *
 generalize zv n ys = y at *
 rcases zp x with c | c | c <;> rcases zp y with d | d | d <;> rcases dH (val ys) (val xs) with e | e | e <;> rcases wx x y with f | f | f <;> omega
theorem cmpZ_pos {m n : Bool} {xs ys : List Nat} (h1 : ¬ sgn (zv m xs) < 0) (h2 : ¬ sgn (zv m xs) < sgn (zv n ys)) (h3 : ¬ sgn (zv n ys) < sgn (zv m xs)) : cmpN (val xs) (val ys) = cmpZ (zv m xs) (zv n ys) := by
 have hx := vN m xs
 have hy := vN n ys
 generalize zv m xs = x at *
 generalize zv n ys = y at *
 rcases zp x with c | c | c <;> rcases zp y with d | d | d <;> rcases dH (val xs) (val ys) with e | e | e <;> rcases wx x y with f | f | f <;> omega
theorem cmpZ_eq0 (x y : Int) : decide (cmpZ x y = 0) = decide (x = y) := by
 apply decide_eq_decide.2
 rcases wx x y with h | h | h <;> omega
theorem sgn_nn (z : Int) : 0 ≤ sgn z ↔ 0 ≤ z := by rcases zp z with h | h | h <;> omega
theorem sgn_pos (z : Int) : 0 < sgn z ↔ 0 < z := by rcases zp z with h | h | h <;> omega
theorem qn (z : Int) : sgn z = 0 ↔ z = 0 := by rcases zp z with h | h | h <;> omega
theorem je (z : Int) : sgn z < 0 ↔ z < 0 := by rcases zp z with h | h | h <;> omega
theorem quo_rest (m n : Bool) (xs ys : List Nat) : zv m (zA (if val ys = 0 then 0 else val xs % val ys)) = if zv n ys = 0 then 0 else (zv m xs).tmod (zv n ys) := by
 by_cases h : val ys = 0
 ·rw [if_pos h, if_pos ((bL n ys).2 h), we]; simp
 ·rw [if_neg h, if_neg (fun e => h ((bL n ys).1 e)), zv_tmod]
theorem ne_zv (n : Bool) (ys : List Nat) : decide (val ys ≠ 0) = decide (zv n ys ≠ 0) := decide_eq_decide.2 (not_congr (bL n ys).symm)
theorem euc0 {x y : Int} (h : ¬ y ≠ 0 ∨ 0 ≤ sgn (if y = 0 then 0 else x.tmod y)) : x.tdiv y = x / y ∧ (if y = 0 then 0 else x.tmod y) = (if y = 0 then 0 else x % y) := by
 by_cases hy : y = 0
 ·subst hy; simp
 ·rw [if_neg hy, sgn_nn] at h
  rw [if_neg hy, if_neg hy]
  exact (wu x y).1 (h.resolve_left (fun e => e hy))
theorem euc1 {x y : Int} (h : y ≠ 0 ∧ sgn (if y = 0 then 0 else x.tmod y) < 0) (hp : 0 < sgn y) : x.tdiv y - 1 = x / y ∧ (if y = 0 then 0 else x.tmod y) + y = (if y = 0 then 0 else x % y) := by
 obtain ⟨hy, h⟩ := h
 rw [if_neg hy, je] at h
 rw [if_neg hy, if_neg hy]
 exact ((wu x y).2 h).1 ((sgn_pos y).1 hp)
theorem euc2 {x y : Int} (h : y ≠ 0 ∧ sgn (if y = 0 then 0 else x.tmod y) < 0) (hp : sgn y ≤ 0) : x.tdiv y + 1 = x / y ∧ (if y = 0 then 0 else x.tmod y) - y = (if y = 0 then 0 else x % y) := by
 obtain ⟨hy, h⟩ := h
 rw [if_neg hy, je] at h
 rw [if_neg hy, if_neg hy]
 refine ((wu x y).2 h).2 ?_
 rcases zp y with g | g | g <;> omega
theorem ex_no {x y : Int} (h : ¬ y ≠ 0 ∨ ¬ sgn (if y = 0 then 0 else x.tmod y) = 0) : ¬ (y ≠ 0 ∧ x.tmod y = 0) := by
 rintro ⟨h1, h2⟩
 rcases h with h | h
 ·exact h h1
 ·rw [if_neg h1, qn] at h; exact h h2
theorem ex_yes {x y : Int} (h : y ≠ 0 ∧ sgn (if y = 0 then 0 else x.tmod y) = 0) : y ≠ 0 ∧ x.tmod y = 0 := by
 obtain ⟨h1, h2⟩ := h
 rw [if_neg h1, qn] at h2
 exact ⟨h1, h2⟩
theorem nz_if (x y : Int) : (List.length (zA (if y = 0 then 0 else x.tmod y).natAbs)) ≤ (List.length (zA x.natAbs)) := by
 split
 ·rw [Int.natAbs_zero, zF]; exact Nat.zero_le _
 ·exact nz_tmod x y
theorem ca : (List.length (zA (1 : Int).natAbs)) = 1 := fC
end Go.Nt
namespace Go.Nt
def dv (n : Bool) (xs : List Nat) : Int := if n = true then -(dval xs : Int) else (dval xs : Int)
/-! ### lines of a product -/
end Go.Nt
namespace Go.Nt
def xg (A B : Int) : Int := (cof A B 1 0).2 % ((B.natAbs : Int) / ((Nat.gcd A.natAbs B.natAbs : Nat) : Int))
theorem gcd_pos' {A B : Int} (h : B ≠ 0) : 0 < Nat.gcd A.natAbs B.natAbs := Nat.gcd_pos_of_pos_right _ (by omega)
theorem xg_step {A B : Int} (h : B ≠ 0) : (if (cof A B 1 0).1 ≠ 0 ∧ (((B.natAbs : Nat) : Int)).tmod (cof A B 1 0).1 = 0 then (((B.natAbs : Nat) : Int)).tdiv (cof A B 1 0).1 else 0) = (B.natAbs : Int) / ((Nat.gcd A.natAbs B.natAbs : Nat) : Int) := by
 have hg := gcd_pos' (A := A) h
 rw [(bp A B).1]
 have hd : B.natAbs % Nat.gcd A.natAbs B.natAbs = 0 := Nat.mod_eq_zero_of_dvd (Nat.gcd_dvd_right _ _)
 have h1 : (((B.natAbs : Nat) : Int)).tmod ((Nat.gcd A.natAbs B.natAbs : Nat) : Int) = 0 := by
  rw [← Int.ofNat_tmod, hd]; rfl
 rw [if_pos ⟨by omega, h1⟩, Int.tdiv_eq_ediv_of_nonneg (by omega)]
theorem step_pos {A B : Int} (h : B ≠ 0) : 0 < (B.natAbs : Int) / ((Nat.gcd A.natAbs B.natAbs : Nat) : Int) := by
 have hg := gcd_pos' (A := A) h
 rw [← Int.natCast_ediv]
 have : 0 < B.natAbs / Nat.gcd A.natAbs B.natAbs := Nat.div_pos (Nat.le_of_dvd (by omega) (Nat.gcd_dvd_right _ _)) hg
 omega
theorem step_le (A B : Int) : ((B.natAbs : Int) / ((Nat.gcd A.natAbs B.natAbs : Nat) : Int)).natAbs ≤ B.natAbs := by
 rw [← Int.natCast_ediv, Int.natAbs_natCast]; exact Nat.div_le_self _ _
theorem xg_le {A B : Int} (h : B ≠ 0) : (xg A B).natAbs ≤ B.natAbs := by
 have h1 := step_pos (A := A) h
 have h2 := step_le A B
 have h3 := Int.emod_nonneg (cof A B 1 0).2 (show (B.natAbs : Int) / ((Nat.gcd A.natAbs B.natAbs : Nat) : Int) ≠ 0 by omega)
 have h4 := Int.emod_lt_of_pos (cof A B 1 0).2 h1
 unfold xg; omega
/-! ### powers -/
/-! ### Euclid's steps are few -/
/-! ### the elements of a field -/
theorem toNat_lt {z : Int} {p : Nat} (hp : 0 < p) : (z % (p : Int)).toNat < p := by
 have h1 := Int.emod_nonneg z (show (p : Int) ≠ 0 by omega)
 have h2 := Int.emod_lt_of_pos z (show 0 < (p : Int) by omega)
 omega
end Go.Nt
namespace Go.En
open Go.RowKit Go.Nt
abbrev isZ (z : Int) : VP := Flat [isB (decide (z < 0)), SlM isU (zA z.natAbs)]
abbrev zM (k : Nat) (z : Int) : Option Nat × MP := (some k, zB [isB (decide (z < 0)), SlM isU (zA z.natAbs)])
theorem zN {z z' : Int} (h : z = z') : isZ z = isZ z' := h ▸ rfl
theorem isZ_of {n : Bool} {xs : List Nat} {z : Int} (h : n = decide (z < 0)) (h2 : xs = zA z.natAbs) : Flat [isB n, SlM isU xs] = isZ z := by subst h; subst h2; rfl
theorem isZ0 : Flat [isB false, SlM isU []] = isZ 0 := isZ_of (by decide) (by rw [Int.natAbs_zero, zF])
section
variable {E : Env} {P : Program} {Γ : Ctx} {M : Mem} {x : Operand}
theorem Has.okZ {n : Bool} {xs : List Nat} (h : Has E Γ M x (Flat [isB n, SlM isU xs])) : ∀ a w F, Sat E Γ M a w F → (∀ y ∈ xs, y < 18446744073709551616) ∧ xs.length ≤ 9223372036854775807 := by
 intro a w F s
 obtain ⟨vs, e, hv⟩ := h a w F s
 obtain ⟨v, hv1, hv2⟩ := hv.get 1 (SlM isU xs) rfl
 obtain ⟨ad, cap, e, g1, g2, g3, g4⟩ := hv2
 refine ⟨fun y hy => ?_, by rw [zf] at g2; omega⟩
 obtain ⟨i, hi, rfl⟩ := List.mem_iff_getElem.1 hy
 rcases g4 with g4 | ⟨b, off, _, _, vs, hv, _⟩
 ·omega
 ·obtain ⟨v, _, h2⟩ := hv.get i (isU xs[i]) (by simp [hi])
  exact h2.2
theorem Has.lt2 {a b : Nat} (h : Has E Γ M x (Flat [isU a, isU b])) : ∀ ac w F, Sat E Γ M ac w F → a < 18446744073709551616 ∧ b < 18446744073709551616 := by
 intro ac w F s
 obtain ⟨vs, e, hv⟩ := h ac w F s
 obtain ⟨v, hv1, hv2⟩ := hv.get 0 (isU a) rfl
 obtain ⟨v', hv3, hv4⟩ := hv.get 1 (isU b) rfl
 exact ⟨hv2.2, hv4.2⟩
end
end Go.En
namespace Go.En
open Go.RowKit
section
variable {E : Env} {P : Program} {Γ : Ctx} {M : Mem} {ty : TypeId} {pos : String} {after : Array Edge} {gd : Option (Nat × Bool)} {d : Option Tmp}
 {ops : Array Oper} {Q : Exit → Act → World → Prop} {rest : List Oper} {T T' : TypeId} {x y : Operand} {α : Type} {f : α → VP} {fk : α → List VP} {xs : List α} {k : Nat}
theorem qW (hk : ∀ y, (fk y).length = k) : ∀ (xs : List α), (xs.flatMap fk).length = xs.length * k
 | [] => by simp
 | a :: l => by rw [List.flatMap_cons, List.length_append, hk, qW hk l, List.length_cons, Nat.succ_mul]; omega
theorem vB (hk : ∀ y, (fk y).length = k) : ∀ (n : Nat) (xs : List α), (xs.flatMap fk).take (n * k) = (xs.take n).flatMap fk
  | 0, xs => by simp
  | n + 1, [] => by simp
  | n + 1, a :: l => by
    rw [List.flatMap_cons, List.take_succ_cons, List.flatMap_cons, Nat.succ_mul, Nat.add_comm, ← hk a, List.take_length_add_append, hk a, vB hk n l]
theorem wg (hk : ∀ y, (fk y).length = k) : ∀ (n : Nat) (xs : List α), (xs.flatMap fk).drop (n * k) = (xs.drop n).flatMap fk
  | 0, xs => by simp
  | n + 1, [] => by simp
  | n + 1, a :: l => by
    rw [List.flatMap_cons, List.drop_succ_cons, Nat.succ_mul, Nat.add_comm, ← hk a, List.drop_length_add_append, hk a, wg hk n l]
theorem flat_part (hk : ∀ y, (fk y).length = k) (l h : Nat) (xs : List α) : ((xs.flatMap fk).take (h * k)).drop (l * k) = ((xs.take h).drop l).flatMap fk := by
 rw [vB hk, wg hk]
theorem SlK_of {n : Nat} {Ss : List VP} {xs : List α} (h1 : n = xs.length) (h2 : Ss = xs.flatMap fk) : SlL k n Ss = SlK k fk xs := by subst h1; subst h2; rfl
theorem All2.rep {z : List VP} {vs : List Value} {w : World} {F : Blk} (h : All2 z w F vs) : ∀ c, All2 ((List.replicate c z).flatten) w F ((List.replicate c vs).flatten)
 | 0 => trivial
 | c + 1 => by rw [List.replicate_succ, List.replicate_succ, List.flatten_cons, List.flatten_cons]; exact All2.append h (All2.rep h c)
theorem wC {u : α} : ∀ c, (List.replicate c u).flatMap fk = (List.replicate c (fk u)).flatten
 | 0 => rfl
 | c + 1 => by rw [List.replicate_succ, List.replicate_succ, List.flatMap_cons, List.flatten_cons, wC c]
theorem Ops.makeK {d : Nat} {e : TypeId} {g : Bool} {z : Value} {n c : Nat} {u : α} (hT : slB P T = some e) (ht : tyB P e = some (k, g)) (hz : qI P e = some z) (hZ : ∀ w F, All2 (fk u) w F z.cells.toList) (hk : ∀ y, (fk y).length = k) (hby : byLe P e 1024 = true)
  (hx : Has E Γ M x (isI (n : Int))) (hy : Has E Γ M y (isI (c : Int))) (hn : n ≤ c ∧ c ≤ 4294967296) (hd : Nat.blt d E.n = true)
  (kk : ∀ b, Ops E P ops Q rest ((d, zu b 0 n c) :: Γ) ((some b, zB ((List.replicate c u).flatMap fk)) :: M)) : Ops E P ops Q (⟨some d, .makeSlice T x y, ty, pos, after, none⟩ :: rest) Γ M := by
 intro a w F s
 refine wpList_plain rfl fun K hK => ?_
 unfold Oper.wp
 have hm : z.cells.size = k := by have := (hZ w F).len; rw [hk] at this; simpa using this.symm
 obtain ⟨i, hi, hb⟩ : ∃ i, P.info? e = some i ∧ i.bytes ≤ 1024 := by
  unfold byLe at hby
  cases hi : P.info? e with
  | none => simp [hi] at hby
  | some i => rw [hi] at hby; exact ⟨i, rfl, Nat.le_of_ble_eq_true hby⟩
 have hr : (execOp a.eval (⟨some d, .makeSlice T x y, ty, pos, after, none⟩ : Oper)).run P w = .ok (.value (.slice (some ⟨w.heap.size, 0, none⟩) n c)) { w with heap := w.heap.push (.cells ((List.replicate c z.cells.toList).flatten).toArray e) } := by
  simp only [execOp, evI hx a w F s, evI hy a w F s, Sem.run_bind, run_make hT ht hz hi hb hn.1 hn.2 hm, Result.andThen_ok, Sem.run_pure]
 rw [hr]
 have hall : All2 ((List.replicate c u).flatMap fk) w F ((List.replicate c z.cells.toList).flatten) := by rw [wC]; exact (hZ w F).rep c
 have s1 := s.alloc (T := e) hall
 have hd' : d < E.n := by simpa [Nat.blt_eq] using hd
 exact hK _ _ (kk w.heap.size _ _ F (s1.put hd' ⟨rfl, hn.1, by rw [zf]; omega⟩))
theorem flat_set (hk : ∀ y, (fk y).length = k) (z : α) : ∀ (j : Nat) (xs : List α), j < xs.length → (xs.flatMap fk).take (j * k) ++ fk z ++ (xs.flatMap fk).drop (j * k + k) = (xs.set j z).flatMap fk
  | j, xs, hj => by
    rw [← Nat.succ_mul, vB hk, wg hk, List.set_eq_take_append_cons_drop, if_pos hj, List.flatMap_append, List.flatMap_cons, List.append_assoc]
theorem Ops.storeK {b i j : Nat} {g : Bool} {T : TypeId} {S : VP} {z : α} [sh : Shape S (fk z)] [o1 : Ones (fk z)] (hk : ∀ y, (fk y).length = k) (hx : Has E Γ M x (qM b (j * k))) (hy : Has E Γ M y S)
  (hM : M[i]? = some (some b, zB (xs.flatMap fk))) (hT : tyB P T = some (k, g)) (hl : j < xs.length) {M' : Mem}
  (hM' : M.set i (some b, zB ((xs.set j z).flatMap fk)) = M') (kk : Ops E P ops Q rest Γ M') : Ops E P ops Q (⟨none, .store T x y, ty, pos, after, none⟩ :: rest) Γ M :=
 Ops.store (Ss1 := fk z) hx hy hM hT (by rw [hk, Nat.beq_eq]) (by
  rw [Nat.ble_eq, qW hk, ← Nat.succ_mul]; exact Nat.mul_le_mul_right k hl) (Ss' := (xs.set j z).flatMap fk) (flat_set hk z j xs hl) hM' kk
theorem Cv.freezeL {t b o n c i : Nat} {Ss : List VP} (hW : E.W = []) (ht : look Γ t = some (zu b o n c)) (hM : M[i]? = some (some b, zB Ss)) (hl : o + n * k ≤ Ss.length) : Cv E Γ M ((t, SlL k n ((Ss.drop o).take (n * k))) :: Γ) (M.eraseIdx i) := by
  intro a w F s
  obtain ⟨h1, h2, h3, ob, h4, vs, T', rfl, hv⟩ := s.mem.each b _ (List.mem_of_getElem? hM)
  refine ⟨fun k => F k ∨ k = b, ?_⟩
  have hsub : ∀ k, F k → (F k ∨ k = b) := fun k hk => .inl hk
  have hi : i < M.length := by
    rcases Nat.lt_or_ge i M.length with h | h
    · exact h
    · rw [List.getElem?_eq_none h] at hM; cases hM
  have hMi : M[i] = (some b, zB Ss) := by rw [List.getElem?_eq_getElem hi] at hM; exact Option.some.inj hM
  have hbW : E.w0.heap.size ≤ b := h1.resolve_right (by rw [hW]; simp)
  obtain ⟨e1, e2, e3⟩ := s.slots t _ ht
  · refine { defers := s.defers, size := s.size, keep := s.keep, f0 := fun k hk => .inl (s.f0 k hk), fnew := ?_, flt := ?_, slots := ?_, mem := ⟨s.mem.apart.sublist (List.eraseIdx_sublist _ _), ?_⟩ }
    · rintro k (hk | rfl)
      · exact s.fnew k hk
      · exact .inr ⟨hbW, h2⟩
    · rintro k (hk | rfl)
      · exact s.flt k hk
      · exact h2
    · intro t' S' ht'
      simp only [look] at ht'
      cases hb : Nat.beq t t' with
      | false => rw [hb] at ht'; exact S'.mono _ _ _ _ _ (s.slots t' S' ht') (fun _ _ => rfl) hsub
      | true =>
        rw [hb] at ht'
        obtain rfl : SlL k n ((Ss.drop o).take (n * k)) = S' := by simpa using ht'
        obtain rfl := Nat.eq_of_beq_eq_true hb
        have hlen : ((Ss.drop o).take (n * k)).length = n * k := by rw [List.length_take, List.length_drop]; omega
        refine ⟨some ⟨b, o, none⟩, c, e1, e2, e3, hlen, ?_⟩
        right
        refine ⟨b, o, rfl, .inr rfl, (vs.drop o).take (n * k), All2.mono (fun _ _ => rfl) hsub _ _ ((hv.drop o).take (n * k)), fun j u hj => ?_⟩
        have hjn : j < n * k := by
          rcases Nat.lt_or_ge j (n * k) with h | h
          · exact h
          · rw [List.getElem?_take_eq_none h] at hj; cases hj
        rw [List.getElem?_take_of_lt hjn, List.getElem?_drop] at hj
        simp [World.cell?, h4, hj]
    · intro k C hk
      obtain ⟨j, hji, hj⟩ := List.mem_eraseIdx_iff_getElem?.1 hk
      obtain ⟨g1, g2, g3, o2, g4, g5⟩ := s.mem.each k C (List.mem_of_getElem? hj)
      have hkb : k ≠ b := by
        intro e; subst e
        have hjl : j < M.length := by
          rcases Nat.lt_or_ge j M.length with h | h
          · exact h
          · rw [List.getElem?_eq_none h] at hj; cases hj
        have hMj : M[j] = (some k, C) := by rw [List.getElem?_eq_getElem hjl] at hj; exact Option.some.inj hj
        rcases Nat.lt_or_gt_of_ne hji with hlt | hlt
        · have hp := List.pairwise_iff_getElem.1 s.mem.apart j i hjl hi hlt
          rw [hMi, hMj] at hp; simp at hp
        · have hp := List.pairwise_iff_getElem.1 s.mem.apart i j hi hjl hlt
          rw [hMi, hMj] at hp; simp at hp
      exact ⟨g1, g2, fun h => h.elim g3 hkb, o2, g4, C.mono _ _ _ _ _ g5 (fun _ _ => rfl) hsub⟩
theorem Cv.freezeK {t b n c i : Nat} {ys : List α} (hk : ∀ y, (fk y).length = k) (hW : E.W = []) (ht : look Γ t = some (zu b 0 n c)) (hM : M[i]? = some (some b, zB (xs.flatMap fk))) (hl : n ≤ xs.length) (he : xs.take n = ys) :
  Cv E Γ M ((t, SlK k fk ys) :: Γ) (M.eraseIdx i) := by
 have h := Cv.freezeL (E := E) (k := k) hW ht hM (by rw [qW hk, Nat.zero_add]; exact Nat.mul_le_mul_right k hl)
 rw [List.drop_zero, vB hk, he] at h
 rwa [SlK_of (by rw [← he, List.length_take]; omega) rfl] at h
def grMK (fk : α → List VP) (g : Gr α) (ys : List α) : Option Nat × MP := (g.ob, zB ((ys ++ g.sp).flatMap fk))
theorem Cv.grow0K (fk : α → List VP) : Cv E Γ M Γ (grMK fk Gr.nil [] :: M) := fun a w F s =>
 ⟨F, { s with mem := ⟨List.Pairwise.cons (fun x hx => .inl rfl) s.mem.apart, fun b C hb => by
  rcases List.mem_cons.1 hb with e | hb
  ·cases e
  ·exact s.mem.each b C hb⟩ }⟩
theorem All2.ofFlat {w : World} {F : Blk} {vs : List Value} (hk : ∀ y, (fk y).length = k) (h : All2 (xs.flatMap fk) w F vs) : vs.length = xs.length * k := by
 rw [← h.len, qW hk]
theorem Ops.appendGK {d i : Nat} {e : TypeId} {g0 : Bool} {z : Value} {u : α} {g : Gr α} {ys zs : List α} (hk : ∀ y, (fk y).length = k) (hk0 : 0 < k) (h1 : ∀ u, Ones (fk u)) (hT : slB P T = some e) (ht : tyB P e = some (k, g0)) (hz : qI P e = some z) (hZ : ∀ w F, All2 (fk u) w F z.cells.toList) (hby : byLe P e 1024 = true)
  (hx : Has E Γ M x (isGr g ys.length)) (hM : M[i]? = some (grMK fk g ys)) (hy : Has E Γ M y (SlK k fk zs)) (hn' : ys.length + zs.length ≤ 4294967296) (h0 : 0 < zs.length) (hd : Nat.blt d E.n = true)
  (kk : ∀ g' : Gr α, Ops E P ops Q rest ((d, isGr g' (ys.length + zs.length)) :: Γ) (M.set i (grMK fk g' (ys ++ zs)))) :
  Ops E P ops Q (⟨some d, .call ⟨.builtin .append, #[x, y], #[T, T]⟩, ty, pos, after, none⟩ :: rest) Γ M := by
 intro a w F s
 refine wpList_plain rfl fun K hK => ?_
 have hd' : d < E.n := by simpa [Nat.blt_eq] using hd
 obtain ⟨a1, cap, e2, g1, g2, g3, g4⟩ := hy a w F s
 have hu := qF hT
 obtain ⟨inf, hi, hb⟩ : ∃ i, P.info? e = some i ∧ i.bytes ≤ 1024 := by
  unfold byLe at hby
  cases hi : P.info? e with
  | none => simp [hi] at hby
  | some i => rw [hi] at hby; exact ⟨i, rfl, Nat.le_of_ble_eq_true hby⟩
 have hsz : inf.size = k := by
  have := zl (P := P) (w := w) ht
  simp [sizeOf, typeInfo, go_sem, hi] at this; exact this
 have hzz : inf.zero = some z := by unfold qI at hz; rw [hi] at hz; simpa using hz
 have hone : z.cells.size = k := by have := (hZ w F).len; rw [hk] at this; simpa using this.symm
 have hzs : ∀ k, (Builtin.zeroCells z.cells k).toList = (List.replicate k z.cells.toList).flatten := fun k => by
  unfold Builtin.zeroCells
  rw [xc rfl]
 have hall : ∀ c, All2 ((List.replicate c u).flatMap fk) w F ((List.replicate c z.cells.toList).flatten) := fun c => by rw [wC]; exact (hZ w F).rep c
 rcases g4 with g4 | ⟨b1, off, rfl, hF, vs, hv, hc⟩
 ·omega
 have hlen := hv.ofFlat hk
 have hnews : ∀ j u, vs[j]? = some u → w.cell? ((⟨b1, off, none⟩ : Addr).add j) = some u := fun j u hj => by rw [qS]; exact hc j u hj
 have hnl : vs.length = zs.length * inf.size := by rw [hsz]; exact hlen
 -- a new row
 have hfresh : ∀ (olds : List Value), All2 (ys.flatMap fk) w F olds → ∀ cp, ys.length + zs.length ≤ cp → cp ≤ maxLen →
   K (a.put (some d) (.slice (some ⟨w.heap.size, 0, none⟩) (ys.length + zs.length) cp)) { w with heap := w.heap.push (.cells (olds ++ vs ++ (Builtin.zeroCells z.cells (cp - (ys.length + zs.length))).toList).toArray e), drawn := w.drawn + 1 } := by
  intro olds ho cp h1 h2
  have hcs : All2 ((ys ++ zs ++ List.replicate (cp - (ys.length + zs.length)) u).flatMap fk) w F (olds ++ vs ++ (Builtin.zeroCells z.cells (cp - (ys.length + zs.length))).toList) := by
   rw [List.flatMap_append, List.flatMap_append, hzs]; exact All2.append (All2.append ho hv) (hall _)
  have s1 := (s.adv (Adv.drew w F)).alloc (T := e) (All2.mono (w := w) (w' := { w with drawn := w.drawn + 1 }) (fun _ _ => rfl) (fun _ h => h) _ _ hcs)
  refine hK _ _ (kk ⟨some w.heap.size, cp, List.replicate (cp - (ys.length + zs.length)) u⟩ _ _ F ((s1.swap (i := i)).put hd' (.inr ⟨_, rfl, rfl, ?_, h2⟩)))
  simp; omega
 unfold Oper.wp
 have hml : ys.length + zs.length ≤ maxLen := by rw [zf]; omega
 rcases hx a w F s with ⟨hob, hyl, e1⟩ | ⟨b, hob, e1, hcap, hcm0⟩
 ·have hbytes : zs.length * inf.bytes ≤ 281474976710656 := by have := Nat.mul_le_mul (show zs.length ≤ 4294967296 by omega) hb; omega
  have hy0 : ys = [] := List.eq_nil_of_length_eq_zero hyl
  have hr := run_append_nil (P := P) w T ty e inf z hu hi hzz ⟨b1, off, none⟩ zs.length cap vs hnl hnews (by omega) (by omega) hbytes
  have hf := hfresh [] (by rw [hy0]; trivial) (grownCap w zs.length 0 e) (by rw [hyl, Nat.zero_add]; exact grownCap_ge _ _ _ _) (grownCap_le_maxLen _ _ _ _ (by omega))
  rw [hyl, Nat.zero_add, List.nil_append] at hf
  have hr2 : (execOp a.eval (⟨some d, .call ⟨.builtin .append, #[x, y], #[T, T]⟩, ty, pos, after, none⟩ : Oper)).run P w = .ok (.value (.slice (some ⟨w.heap.size, 0, none⟩) zs.length (grownCap w zs.length 0 e))) { w with heap := w.heap.push (.cells (vs ++ (Builtin.zeroCells z.cells (grownCap w zs.length 0 e - zs.length)).toList).toArray e), drawn := w.drawn + 1 } := by
   have earr : vs.toArray ++ Builtin.zeroCells z.cells (grownCap w zs.length 0 e - zs.length) = (vs ++ (Builtin.zeroCells z.cells (grownCap w zs.length 0 e - zs.length)).toList).toArray := by apply Array.ext'; simp
   simp only [execOp, resolve, invoke, builtin, Sem.run_bind]
   rw [← earr]
   simp [e1, e2, Sem.run_bind, hr]
   first | rfl | exact ⟨rfl, rfl⟩ | done
  rw [hr2]
  exact hf
 ·have hM' : M[i]? = some (some b, zB ((ys ++ g.sp).flatMap fk)) := by rw [hM]; unfold grMK; rw [hob]
  obtain ⟨o, ho, us, T', rfl, hus⟩ := jF s hM'
  have husl := hus.ofFlat hk
  rw [List.length_append] at husl
  have hyk : ys.length * k ≤ us.length := by rw [husl]; exact Nat.mul_le_mul_right k (by omega)
  rcases Nat.lt_or_ge g.c (ys.length + zs.length) with hg | hg
  ·have holds : All2 (ys.flatMap fk) w F (us.take (ys.length * k)) := by
    have := hus.take (ys.length * k)
    rwa [vB hk, List.take_left' rfl] at this
   have hcell : ∀ j u, (us.take (ys.length * k))[j]? = some u → w.cell? ((⟨b, 0, none⟩ : Addr).add j) = some u := fun j u hj => by
    have hjl : j < ys.length * k := by
     rcases Nat.lt_or_ge j (ys.length * k) with h | h
     ·exact h
     ·rw [List.getElem?_take_eq_none h] at hj; cases hj
    rw [List.getElem?_take_of_lt hjl] at hj
    rw [qS]
    simp only [World.cell?, ho, Nat.zero_add]
    simpa using hj
   have hfit : Builtin.nextslicecap (ys.length + zs.length) g.c * inf.bytes ≤ 281474976710656 := by
    have h1 := nextslicecap_le hg
    have h2 := Nat.mul_le_mul (Nat.le_trans h1 (show 2 * (ys.length + zs.length) ≤ 8589934592 by omega)) hb
    omega
   have hr := run_append_grow (P := P) w T ty e inf z hu hi hzz ⟨b, 0, none⟩ ys.length g.c (us.take (ys.length * k)) (by rw [List.length_take, hsz]; omega) hcell ⟨b1, off, none⟩ zs.length cap vs hnl hnews hg (by omega) hfit
   have hf := hfresh _ holds (grownCap w (ys.length + zs.length) g.c e) (grownCap_ge _ _ _ _) (grownCap_le_maxLen _ _ _ _ hml)
   have hr2 : (execOp a.eval (⟨some d, .call ⟨.builtin .append, #[x, y], #[T, T]⟩, ty, pos, after, none⟩ : Oper)).run P w = .ok (.value (.slice (some ⟨w.heap.size, 0, none⟩) (ys.length + zs.length) (grownCap w (ys.length + zs.length) g.c e))) { w with heap := w.heap.push (.cells (us.take (ys.length * k) ++ vs ++ (Builtin.zeroCells z.cells (grownCap w (ys.length + zs.length) g.c e - (ys.length + zs.length))).toList).toArray e), drawn := w.drawn + 1 } := by
    have earr : (us.take (ys.length * k)).toArray ++ vs.toArray ++ Builtin.zeroCells z.cells (grownCap w (ys.length + zs.length) g.c e - (ys.length + zs.length)) = (us.take (ys.length * k) ++ vs ++ (Builtin.zeroCells z.cells (grownCap w (ys.length + zs.length) g.c e - (ys.length + zs.length))).toList).toArray := by apply Array.ext'; simp
    simp only [execOp, resolve, invoke, builtin, Sem.run_bind]
    rw [← earr]
    simp [e1, e2, Sem.run_bind, hr]
    first | rfl | exact ⟨rfl, rfl⟩ | done
   rw [hr2]
   exact hf
  ·have hvone : ∀ v ∈ vs, v.oneCell' = true := hv.one (fun S hS => by obtain ⟨u, _, hu⟩ := List.mem_flatMap.1 hS; exact (h1 u).ones S hu)
   have hsum : ys.length * k + vs.length ≤ us.length := by
    rw [hlen, husl, ← Nat.add_mul]; exact Nat.mul_le_mul_right k (by omega)
   have hst := run_storeCells_at P b (ys.length * k) T' vs 0 us.toArray w ho (by simp; omega) hvone
   simp only [Nat.add_zero] at hst
   have hfc := run_firstCells_some (P := P) w k zs.length ⟨b1, off, none⟩ zs.length cap vs (by rw [hlen]) hnews
   have hr : (Builtin.append_ #[T, T] ty #[.slice (some ⟨b, 0, none⟩) ys.length g.c, .slice (some ⟨b1, off, none⟩) zs.length cap]).run P w = .ok (.slice (some ⟨b, 0, none⟩) (ys.length + zs.length) g.c) (w.setRow b (us.take (ys.length * k) ++ vs ++ us.drop (ys.length * k + vs.length)).toArray) := by
    have hst' : (storeCells ⟨b, ys.length * k, none⟩ vs).run P w = .ok () (w.setRow b (us.take (ys.length * k) ++ vs ++ us.drop (ys.length * k + vs.length)).toArray) := by simpa using hst
    simp [Builtin.append_, run_underlying hu, sizeOf, typeInfo, hi, hsz, Builtin.lenOf, hg, hfc, Addr.add_lit, hst']
   have hr2 : (execOp a.eval (⟨some d, .call ⟨.builtin .append, #[x, y], #[T, T]⟩, ty, pos, after, none⟩ : Oper)).run P w = .ok (.value (.slice (some ⟨b, 0, none⟩) (ys.length + zs.length) g.c)) (w.setRow b (us.take (ys.length * k) ++ vs ++ us.drop (ys.length * k + vs.length)).toArray) := by
    simp only [execOp, resolve, invoke, builtin, Sem.run_bind]
    simp [e1, e2, Sem.run_bind, hr]
   rw [hr2]
   have hF : ∀ k', F k' → (w.setRow b (us.take (ys.length * k) ++ vs ++ us.drop (ys.length * k + vs.length)).toArray).heap[k']? = w.heap[k']? := fun k' hk' => qy _ _ _ _ (fun e => by
    subst e; exact (s.mem.each k' _ (List.mem_of_getElem? hM')).2.2.1 hk')
   have hnew : All2 ((ys ++ zs ++ g.sp.drop zs.length).flatMap fk) w F (us.take (ys.length * k) ++ vs ++ us.drop (ys.length * k + vs.length)) := by
    have e1 := hus.take (ys.length * k)
    rw [vB hk, List.take_left' rfl] at e1
    have e2 := hus.drop (ys.length * k + vs.length)
    rw [hlen, ← Nat.add_mul, wg hk, List.drop_append, List.drop_of_length_le (by omega), List.nil_append, Nat.add_sub_cancel_left] at e2
    rw [List.flatMap_append, List.flatMap_append, hlen, ← Nat.add_mul]
    exact (e1.append hv).append e2
   refine hK _ _ (kk ⟨some b, g.c, g.sp.drop zs.length⟩ _ _ F ?_)
   exact (s.write (w' := w.setRow b (us.take (ys.length * k) ++ vs ++ us.drop (ys.length * k + vs.length)).toArray) (C' := zB ((ys ++ zs ++ g.sp.drop zs.length).flatMap fk)) hM' rfl rfl rfl (vI _ _ _) (fun k hk => qy _ _ _ _ hk) (setRow_heap _ _ _ _ _ _ ho) ⟨_, T', rfl, All2.mono hF (fun _ h => h) _ _ hnew⟩).put hd' (.inr ⟨b, rfl, rfl, by simp; omega, hcm0⟩)
theorem nilK {w : World} {F : Blk} : (SlK k fk ([] : List α)).h w F (.slice none 0 0) := ⟨none, 0, rfl, Nat.le_refl _, by rw [zf]; omega, by simp, .inl rfl⟩
theorem Cv.freezeGK {t i : Nat} {g : Gr α} {ys : List α} (hk : ∀ y, (fk y).length = k) (hW : E.W = []) (ht : look Γ t = some (isGr g ys.length)) (hM : M[i]? = some (grMK fk g ys)) : Cv E Γ M ((t, SlK k fk ys) :: Γ) (M.eraseIdx i) := by
  intro a w F s
  rcases id (s.slots t _ ht) with ⟨hob, hyl, e1⟩ | ⟨b, hob, e1, hcap, hcm0⟩
  · refine ⟨F, { s with slots := ?_, mem := ⟨s.mem.apart.sublist (List.eraseIdx_sublist _ _), fun k C hk => s.mem.each k C ((List.eraseIdx_sublist _ _).subset hk)⟩ }⟩
    intro t' S' ht'
    simp only [look] at ht'
    cases hb : Nat.beq t t' with
    | false => rw [hb] at ht'; exact s.slots t' S' ht'
    | true =>
      rw [hb] at ht'
      obtain rfl : SlK k fk ys = S' := by simpa using ht'
      obtain rfl := Nat.eq_of_beq_eq_true hb
      rw [e1, List.eq_nil_of_length_eq_zero hyl]
      exact nilK
  · have hM' : M[i]? = some (some b, zB ((ys ++ g.sp).flatMap fk)) := by rw [hM]; unfold grMK; rw [hob]
    have s2 : Sat E ((t, zu b 0 ys.length g.c) :: Γ) M a w F := s.wider (fun t' S' ht' => by
      simp only [look] at ht'
      cases hb : Nat.beq t t' with
      | false => rw [hb] at ht'; exact s.slots t' S' ht'
      | true =>
        rw [hb] at ht'
        obtain rfl : zu b 0 ys.length g.c = S' := by simpa using ht'
        obtain rfl := Nat.eq_of_beq_eq_true hb
        exact ⟨e1, by omega, hcm0⟩)
    obtain ⟨F', s3⟩ := Cv.freezeK (Γ := (t, zu b 0 ys.length g.c) :: Γ) (t := t) (b := b) (n := ys.length) (c := g.c) hk hW (by simp [look, jR]) hM' (by simp) (List.take_left' rfl) a w F s2
    refine ⟨F', s3.wider fun t' S' ht' => ?_⟩
    simp only [look] at ht'
    refine s3.slots t' S' ?_
    simp only [look]
    cases hb : Nat.beq t t' with
    | false => rw [hb] at ht'; simpa using ht'
    | true => rw [hb] at ht'; simpa using ht'
theorem grMK_eq {g : Gr α} {ys ys' : List α} {r : Mem} (h : ys = ys') : (grMK fk g ys :: r : Mem) = grMK fk g ys' :: r := h ▸ rfl
theorem SlK_eq {xs xs' : List α} (h : xs = xs') : SlK k fk xs = SlK k fk xs' := h ▸ rfl
end
end Go.En
namespace Go.En
open Go.RowKit
section
variable {E : Env} {P : Program} {Γ : Ctx} {M : Mem} {ty : TypeId} {pos : String} {after : Array Edge} {gd : Option (Nat × Bool)} {d : Option Tmp}
 {T T' : TypeId} {x y : Operand} {α : Type} {fk : α → List VP} {xs : List α} {k : Nat}
theorem Has.cWK : Has E Γ M (.const (.slice none 0 0)) (SlK k fk ([] : List α)) := fun _ _ _ _ => nilK
theorem ixo2 {n : Nat} : 0 + n * 2 = n * 2 := by omega
theorem OK1.loadK {b i j : Nat} {x' : α} (hk : ∀ y, (fk y).length = k) (hx : Has E Γ M x (qM b (j * k))) (hM : M[i]? = some (some b, zB (xs.flatMap fk))) (hT : tyB P T = some (k, true)) (hS : xs[j]? = some x') :
  OK1 E P Γ M ⟨d, .load T x, ty, pos, after, gd⟩ (Flat (fk x')) :=
 OK1.load hx hM hT (by
  have hj : j < xs.length := by
   rcases Nat.lt_or_ge j xs.length with h | h
   ·exact h
   ·rw [List.getElem?_eq_none h] at hS; cases hS
  rw [Nat.ble_eq, qW hk, ← Nat.succ_mul]; exact Nat.mul_le_mul_right k hj) (vb xs j x' (fun y _ => hk y) hS)
theorem Cv.winGr {t b n c i : Nat} (ht : look Γ t = some (zu b 0 n c)) (hM : M[i]? = some (some b, zB (xs.flatMap fk))) (hn : n ≤ xs.length) (hc : xs.length = c) :
    Cv E Γ M ((t, isGr (⟨some b, c, xs.drop n⟩ : Gr α) n) :: Γ) (M.set i (grMK fk ⟨some b, c, xs.drop n⟩ (xs.take n))) := fun a w F s => by
  have hset : M.set i (grMK fk ⟨some b, c, xs.drop n⟩ (xs.take n)) = M := by
    refine set_self ?_
    rw [hM]; unfold grMK; simp only [List.take_append_drop]
  rw [hset]
  refine ⟨F, s.wider fun t' S' ht' => ?_⟩
  simp only [look] at ht'
  cases hb : Nat.beq t t' with
  | false => rw [hb] at ht'; exact s.slots t' S' ht'
  | true =>
    rw [hb] at ht'
    obtain rfl : isGr (⟨some b, c, xs.drop n⟩ : Gr α) n = S' := by simpa using ht'
    obtain rfl := Nat.eq_of_beq_eq_true hb
    obtain ⟨e1, e2, e3⟩ := s.slots _ _ ht
    exact .inr ⟨b, rfl, e1, by show n + (xs.drop n).length = c; rw [List.length_drop]; omega, e3⟩
end
abbrev zc (p : Bool × List Nat) : List VP := [isB p.1, zD p.2]
theorem zO : ∀ p, (zc p).length = 2 := fun _ => rfl
abbrev isZs (xs : List (Bool × List Nat)) : VP := SlK 2 zc xs
end Go.En
namespace Go.En
open Go.RowKit
def aN {ι : Type} (P : Program) (As : ι → List VP) (R : ι → VP) : VP :=
 ⟨fun w F v => ∃ (g : FuncId) (first cap : List Value) (Bs Cs : List VP), v = .func (.func g) first.toArray cap.toArray ∧ (∀ i, Ctr P g (Bs ++ As i ++ Cs) (R i)) ∧ All2 Bs w F first ∧ All2 Cs w F cap,
 fun w w' F F' v h h1 h2 => by
  obtain ⟨g, first, cap, Bs, Cs, e, hC, hB, hc⟩ := h
  exact ⟨g, first, cap, Bs, Cs, e, hC, All2.mono h1 h2 _ _ hB, All2.mono h1 h2 _ _ hc⟩⟩
instance {ι : Type} {P : Program} {As : ι → List VP} {R : ι → VP} : One (aN P As R) := ⟨fun w F v h => by obtain ⟨g, first, cap, Bs, Cs, e, _⟩ := h; rw [e]; rfl⟩
instance {ι : Type} {P : Program} {As : ι → List VP} {R : ι → VP} : Shape (aN P As R) [aN P As R] := .of_one inferInstance
instance {Ss : List VP} : One (PtrL Ss) := ⟨fun w F v h => by obtain ⟨b, off, e, _⟩ := h; rw [e]; rfl⟩
instance {Ss : List VP} : Shape (PtrL Ss) [PtrL Ss] := .of_one inferInstance
section
variable {E : Env} {P : Program} {Γ : Ctx} {M : Mem} {ty : TypeId} {pos : String} {after : Array Edge} {gd : Option (Nat × Bool)} {d : Option Tmp}
 {ops : Array Oper} {Q : Exit → Act → World → Prop} {rest : List Oper} {T T' : TypeId} {x y : Operand} {α ι : Type} {As : ι → List VP} {R : ι → VP}
theorem Has.fn {g : FuncId} (h : ∀ i, Ctr P g (As i) (R i)) : Has E Γ M (.func g) (aN P As R) :=
 fun a w F s => ⟨g, [], [], [], [], rfl, fun i => by rw [List.nil_append, List.append_nil]; exact h i, trivial, trivial⟩
theorem OK1.makeFn {g : FuncId} {xs ys : List Operand} {Bs Cs : List VP} (h : ∀ i, Ctr P g (Bs ++ As i ++ Cs) (R i)) (hx : HasL E Γ M xs Bs) (hy : HasL E Γ M ys Cs) :
  OK1 E P Γ M ⟨d, .makeFunc (.func g) xs.toArray ys.toArray, ty, pos, after, gd⟩ (aN P As R) :=
 .run fun a w F s => by
  refine ⟨.func (.func g) (xs.map a.eval).toArray (ys.map a.eval).toArray, ?_, g, _, _, Bs, Cs, rfl, h, hx.all s, hy.all s⟩
  simp [execOp, Instr.makeFunc, go_sem]
theorem OK1.callV {xs : List Operand} {ts : Array TypeId} (i : ι) (hf : Has E Γ M x (aN P As R)) (hx : HasL E Γ M xs (As i)) :
  OK1 E P Γ M ⟨d, .call ⟨.value x, xs.toArray, ts⟩, ty, pos, after, gd⟩ (R i) := by
 intro a w F s K Q hK
 unfold Oper.wp
 obtain ⟨g, first, cap, Bs, Cs, e, hC, hB, hc⟩ := hf a w F s
 have hr : (execOp a.eval (⟨d, .call ⟨.value x, xs.toArray, ts⟩, ty, pos, after, gd⟩ : Oper)).run P w = .ok (.enter g (first ++ xs.map a.eval ++ cap).toArray) w := by
  have := vZ (hC i).1 (first ++ xs.map a.eval ++ cap).toArray w
  simp only [execOp, resolve, Sem.run_bind, e, Deferred.ofValue, Sem.run_pure, Result.andThen_ok, invoke]
  simpa [go_sem] using this
 rw [hr]
 refine ((hC i).2 w F _ s.flt ((hB.append (hx.all s)).append hc)).mono ?_
 rintro e w' ⟨v, rfl, hk, hv⟩
 exact hK v w' _ ⟨hk, fun b hb => .inl hb, fun b hb => hb⟩ hv
theorem Cv.freezeBox {t b i : Nat} {Ss : List VP} (hW : E.W = []) (ht : look Γ t = some (qM b 0)) (hM : M[i]? = some (some b, zB Ss)) : Cv E Γ M ((t, PtrL Ss) :: Γ) (M.eraseIdx i) := by
  intro a w F s
  obtain ⟨h1, h2, h3, ob, h4, vs, T', rfl, hv⟩ := s.mem.each b _ (List.mem_of_getElem? hM)
  refine ⟨fun k => F k ∨ k = b, ?_⟩
  have hsub : ∀ k, F k → (F k ∨ k = b) := fun k hk => .inl hk
  have hi : i < M.length := by
    rcases Nat.lt_or_ge i M.length with h | h
    · exact h
    · rw [List.getElem?_eq_none h] at hM; cases hM
  have hMi : M[i] = (some b, zB Ss) := by rw [List.getElem?_eq_getElem hi] at hM; exact Option.some.inj hM
  have hbW : E.w0.heap.size ≤ b := h1.resolve_right (by rw [hW]; simp)
  have e1 : a.tmps.getD t undef = .pointer (some ⟨b, 0, none⟩) := s.slots t _ ht
  refine { defers := s.defers, size := s.size, keep := s.keep, f0 := fun k hk => .inl (s.f0 k hk), fnew := ?_, flt := ?_, slots := ?_, mem := ⟨s.mem.apart.sublist (List.eraseIdx_sublist _ _), ?_⟩ }
  · rintro k (hk | rfl)
    · exact s.fnew k hk
    · exact .inr ⟨hbW, h2⟩
  · rintro k (hk | rfl)
    · exact s.flt k hk
    · exact h2
  · intro t' S' ht'
    simp only [look] at ht'
    cases hb : Nat.beq t t' with
    | false => rw [hb] at ht'; exact S'.mono _ _ _ _ _ (s.slots t' S' ht') (fun _ _ => rfl) hsub
    | true =>
      rw [hb] at ht'
      obtain rfl : PtrL Ss = S' := by simpa using ht'
      obtain rfl := Nat.eq_of_beq_eq_true hb
      refine ⟨b, 0, e1, .inr rfl, vs, All2.mono (fun _ _ => rfl) hsub _ _ hv, fun j u hj => ?_⟩
      simp [World.cell?, h4, hj]
  · intro k C hk
    obtain ⟨j, hji, hj⟩ := List.mem_eraseIdx_iff_getElem?.1 hk
    obtain ⟨g1, g2, g3, o2, g4, g5⟩ := s.mem.each k C (List.mem_of_getElem? hj)
    have hkb : k ≠ b := by
      intro e; subst e
      have hjl : j < M.length := by
        rcases Nat.lt_or_ge j M.length with h | h
        · exact h
        · rw [List.getElem?_eq_none h] at hj; cases hj
      have hMj : M[j] = (some k, C) := by rw [List.getElem?_eq_getElem hjl] at hj; exact Option.some.inj hj
      rcases Nat.lt_or_gt_of_ne hji with hlt | hlt
      · have hp := List.pairwise_iff_getElem.1 s.mem.apart j i hjl hi hlt
        rw [hMi, hMj] at hp; simp at hp
      · have hp := List.pairwise_iff_getElem.1 s.mem.apart i j hi hjl hlt
        rw [hMi, hMj] at hp; simp at hp
    exact ⟨g1, g2, fun h => h.elim g3 hkb, o2, g4, C.mono _ _ _ _ _ g5 (fun _ _ => rfl) hsub⟩
end
end Go.En
namespace Go.En
open Go.RowKit
section
variable {E : Env} {P : Program} {Γ : Ctx} {M : Mem} {ty : TypeId} {pos : String} {after : Array Edge} {gd : Option (Nat × Bool)} {d : Option Tmp}
 {ops : Array Oper} {Q : Exit → Act → World → Prop} {rest : List Oper} {T T' : TypeId} {x y : Operand} {α : Type} {f : α → VP} {fk : α → List VP} {xs : List α} {k : Nat}
theorem Sat.freezeB {a : Act} {w : World} {F : Blk} {i b : Nat} {Ss : List VP} (s : Sat E Γ M a w F) (hW : E.W = []) (hM : M[i]? = some (some b, zB Ss)) :
  Sat E Γ (M.eraseIdx i) a w (fun k => F k ∨ k = b) ∧ ∃ vs T', w.heap[b]? = some (.cells (List.toArray vs) T' (0, 0)) ∧ All2 Ss w (fun k => F k ∨ k = b) vs := by
 obtain ⟨h1, h2, h3, ob, h4, vs, T', rfl, hv⟩ := s.mem.each b _ (List.mem_of_getElem? hM)
 have hsub : ∀ k, F k → (F k ∨ k = b) := fun k hk => .inl hk
 have hi : i < M.length := by
  rcases Nat.lt_or_ge i M.length with h | h
  ·exact h
  ·rw [List.getElem?_eq_none h] at hM; cases hM
 have hMi : M[i] = (some b, zB Ss) := by rw [List.getElem?_eq_getElem hi] at hM; exact Option.some.inj hM
 have hbW : E.w0.heap.size ≤ b := h1.resolve_right (by rw [hW]; simp)
 refine ⟨?_, vs, T', h4, All2.mono (fun _ _ => rfl) hsub _ _ hv⟩
 refine { defers := s.defers, size := s.size, keep := s.keep, f0 := fun k hk => .inl (s.f0 k hk), fnew := ?_, flt := ?_, slots := fun t S ht => S.mono _ _ _ _ _ (s.slots t S ht) (fun _ _ => rfl) hsub, mem := ⟨s.mem.apart.sublist (List.eraseIdx_sublist _ _), ?_⟩ }
 ·rintro k (hk | rfl)
  ·exact s.fnew k hk
  ·exact .inr ⟨hbW, h2⟩
 ·rintro k (hk | rfl)
  ·exact s.flt k hk
  ·exact h2
 ·intro k C hk
  obtain ⟨j, hji, hj⟩ := List.mem_eraseIdx_iff_getElem?.1 hk
  obtain ⟨g1, g2, g3, o2, g4, g5⟩ := s.mem.each k C (List.mem_of_getElem? hj)
  have hkb : k ≠ b := by
   intro e; subst e
   have hjl : j < M.length := by
    rcases Nat.lt_or_ge j M.length with h | h
    ·exact h
    ·rw [List.getElem?_eq_none h] at hj; cases hj
   have hMj : M[j] = (some k, C) := by rw [List.getElem?_eq_getElem hjl] at hj; exact Option.some.inj hj
   rcases Nat.lt_or_gt_of_ne hji with hlt | hlt
   ·have hp := List.pairwise_iff_getElem.1 s.mem.apart j i hjl hi hlt
    rw [hMi, hMj] at hp; simp at hp
   ·have hp := List.pairwise_iff_getElem.1 s.mem.apart i j hi hjl hlt
    rw [hMi, hMj] at hp; simp at hp
  exact ⟨g1, g2, fun h => h.elim g3 hkb, o2, g4, C.mono _ _ _ _ _ g5 (fun _ _ => rfl) hsub⟩
theorem Sat.drop1 {a : Act} {w : World} {F : Blk} {i : Nat} (s : Sat E Γ M a w F) : Sat E Γ (M.eraseIdx i) a w F :=
 {s with mem := ⟨s.mem.apart.sublist (List.eraseIdx_sublist _ _), fun k C hk => s.mem.each k C ((List.eraseIdx_sublist _ _).subset hk)⟩ }
theorem Sat.freezeGr {a : Act} {w : World} {F : Blk} {i n : Nat} {g : Gr α} {Ts Us : List VP} (s : Sat E Γ M a w F) (hW : E.W = []) (hM : M[i]? = some (g.ob, zB Ts)) (hl : n * k ≤ Ts.length) (he : Ts.take (n * k) = Us) :
    ∃ F', (∀ b, F b → F' b) ∧ Sat E Γ (M.eraseIdx i) a w F' ∧ ∀ v, (isGr g n).h w F v → (SlL k n Us).h w F' v := by
  cases hob : g.ob with
  | none =>
    refine ⟨F, fun _ h => h, s.drop1, ?_⟩
    rintro v (⟨_, rfl, rfl⟩ | ⟨b, hb, _⟩)
    · subst he; exact ⟨none, 0, rfl, Nat.le_refl _, by rw [zf]; omega, by simp, .inl rfl⟩
    · rw [hob] at hb; cases hb
  | some b =>
    rw [hob] at hM
    obtain ⟨s', vs, T', hb, hv⟩ := s.freezeB hW hM
    refine ⟨_, fun _ h => .inl h, s', ?_⟩
    rintro v (⟨h0, _⟩ | ⟨b', hb', rfl, h1, h2⟩)
    · rw [hob] at h0; cases h0
    · obtain rfl : b = b' := by rw [hob] at hb'; exact Option.some.inj hb'
      have hvl := hv.len
      refine ⟨_, _, rfl, by omega, h2, by rw [← he, List.length_take]; omega, .inr ⟨b, 0, rfl, .inr rfl, vs.take (n * k), by rw [← he]; exact hv.take _, fun j u hj => ?_⟩⟩
      have hjn : j < n * k := by
        rcases Nat.lt_or_ge j (n * k) with h | h
        · exact h
        · rw [List.getElem?_take_eq_none h] at hj; cases hj
      rw [List.getElem?_take_of_lt hjn] at hj
      simp [World.cell?, hb, hj]
theorem Sat.memSet {a : Act} {w : World} {F : Blk} {i b : Nat} {C C' : MP} (s : Sat E Γ M a w F) (hM : M[i]? = some (some b, C)) (h : ∀ o, C.h w F o → C'.h w F o) : Sat E Γ (M.set i (some b, C')) a w F := by
 obtain ⟨h1, h2, h3, o, ho, hC⟩ := s.mem.each b C (List.mem_of_getElem? hM)
 exact s.write hM rfl rfl rfl rfl (fun _ _ => rfl) ho (h o hC)
theorem All2.setAt : ∀ {Ss : List VP} {w : World} {F : Blk} {vs : List Value} (o : Nat) {S S' : VP}, All2 Ss w F vs → Ss[o]? = some S → (∀ v, S.h w F v → S'.h w F v) → All2 (Ss.set o S') w F vs
  | [], _, _, _, o, _, _, _, h, _ => by simp at h
  | S0 :: Ss, _, _, v :: vs, 0, S, S', h, e, k => by
    obtain rfl : S0 = S := by simpa using e
    exact ⟨k v h.1, h.2⟩
  | S0 :: Ss, _, _, v :: vs, o + 1, S, S', h, e, k => ⟨h.1, All2.setAt o h.2 (by simpa using e) k⟩
  | _ :: _, _, _, [], _, _, _, h, _, _ => h.elim
theorem Cv.growF {i b o : Nat} {Ss Ts : List VP} (α : Type) (hM : M[i]? = some (some b, zB Ss)) (ho : Ss[o]? = some nilS) (hT : Ss.set o (isGr (Gr.nil : Gr α) 0) = Ts) : Cv E Γ M Γ ((none, zB []) :: M.set i (some b, zB Ts)) := fun a w F s => by
 have s1 : Sat E Γ (M.set i (some b, zB Ts)) a w F := s.memSet hM fun ob ⟨vs, ty, e, h⟩ => ⟨vs, ty, e, by
  rw [← hT]
  exact h.setAt o ho (fun v hv => by rw [show v = .slice none 0 0 from hv]; exact gr0)⟩
 exact ⟨F, { s1 with mem := ⟨List.Pairwise.cons (fun x hx => .inl rfl) s1.mem.apart, fun b C hb => by
  rcases List.mem_cons.1 hb with e | hb
  ·cases e
  ·exact s1.mem.each b C hb⟩ }⟩
theorem Cv.freezeF {i j b o n : Nat} {g : Gr α} {Ss Ss' Ts Us : List VP} (hW : E.W = []) (hM : M[i]? = some (g.ob, zB Ts)) (hM2 : (M.eraseIdx i)[j]? = some (some b, zB Ss)) (ho : Ss[o]? = some (isGr g n)) (hl : n * k ≤ Ts.length) (he : Ts.take (n * k) = Us)
    (hT : Ss.set o (SlL k n Us) = Ss') : Cv E Γ M Γ ((M.eraseIdx i).set j (some b, zB Ss')) := fun a w F s => by
  obtain ⟨F', hsub, s', hv⟩ := s.freezeGr hW hM hl he
  refine ⟨F', ?_⟩
  -- the field's cell as it was known before
  obtain ⟨_, _, _, ob, hob, vs, ty, e, hvs⟩ := s.drop1 (i := i) |>.mem.each b _ (List.mem_of_getElem? hM2)
  obtain ⟨_, _, _, ob2, hob2, vs2, ty2, e2, hvs2⟩ := s'.mem.each b _ (List.mem_of_getElem? hM2)
  have hsame : ∀ o', w.heap[b]? = some o' → o' = ob := fun o' h => by rw [hob] at h; exact (Option.some.inj h).symm
  refine s'.write hM2 rfl rfl rfl rfl (fun _ _ => rfl) hob ⟨vs, ty, e, ?_⟩
  rw [← hT]
  obtain ⟨v, hv1, hv2⟩ := hvs.get o _ ho
  have h3 : All2 Ss w F' vs := All2.mono (fun _ _ => rfl) hsub _ _ hvs
  -- place by place
  have key : ∀ {Ss : List VP} {vs : List Value} (o : Nat), All2 Ss w F' vs → vs[o]? = some v → All2 (Ss.set o (SlL k n Us)) w F' vs := by
    intro Ss
    induction Ss with
    | nil => intro vs o h _; simpa using h
    | cons S0 Ss ih =>
      intro vs o h e
      cases vs with
      | nil => exact h.elim
      | cons u us =>
        cases o with
        | zero =>
          obtain rfl : u = v := by simpa using e
          exact ⟨hv u hv2, h.2⟩
        | succ o => exact ⟨h.1, ih o h.2 (by simpa using e)⟩
  exact key o h3 hv1
theorem gr_takeM {g : Gr α} {ys : List α} : (((ys ++ g.sp).map f).take (ys.length * 1)) = ys.map f := by rw [Nat.mul_one, List.map_append, List.take_left' (by simp)]
theorem gr_lenM {g : Gr α} {ys : List α} : ys.length * 1 ≤ ((ys ++ g.sp).map f).length := by simp
theorem wJ {g : Gr α} {ys : List α} (hk : ∀ y, (fk y).length = k) : (((ys ++ g.sp).flatMap fk).take (ys.length * k)) = ys.flatMap fk := by rw [vB hk, List.take_left' rfl]
theorem aO {g : Gr α} {ys : List α} (hk : ∀ y, (fk y).length = k) : ys.length * k ≤ ((ys ++ g.sp).flatMap fk).length := by rw [qW hk, List.length_append]; exact Nat.mul_le_mul_right k (by omega)
end
end Go.En
namespace Go.Pz
def cf (l : List Int) (i : Nat) : Int := l.getD i 0
theorem cf_nil (i : Nat) : cf [] i = 0 := rfl
theorem cf_zero (a : Int) (l : List Int) : cf (a :: l) 0 = a := rfl
theorem bq (a : Int) (l : List Int) (i : Nat) : cf (a :: l) (i + 1) = cf l i := rfl
theorem xS {l : List Int} {i : Nat} (h : l.length ≤ i) : cf l i = 0 := by
 unfold cf; rw [List.getD, List.getElem?_eq_none h]; rfl
def xA : List Int → List Int
 | [] => []
 | a :: l => if xA l = [] ∧ a = 0 then [] else a :: xA l
theorem jr : ∀ (l : List Int) (i : Nat), cf (xA l) i = cf l i
  | [], i => rfl
  | a :: l, i => by
    unfold xA
    split
    · rename_i h
      cases i with
      | zero => rw [cf_zero, h.2]; rfl
      | succ i => rw [bq, ← jr l i, h.1]; rfl
    · cases i with
      | zero => rfl
      | succ i => rw [bq, bq, jr l i]
theorem norm_nil {l : List Int} : xA l = [] ↔ ∀ i, cf l i = 0 := by
  constructor
  · intro h i; rw [← jr, h]; rfl
  · induction l with
    | nil => intro _; rfl
    | cons a l ih =>
      intro h
      unfold xA
      rw [if_pos ⟨ih fun i => h (i + 1), h 0⟩]
theorem norm_ext : ∀ {a b : List Int}, (∀ i, cf a i = cf b i) → xA a = xA b
  | [], b, h => (norm_nil.2 fun i => (h i).symm).symm
  | x :: a, [], h => norm_nil.2 h
  | x :: a, y :: b, h => by
    have h1 : x = y := h 0
    have h2 := norm_ext fun i => h (i + 1)
    unfold xA
    rw [h1, h2]
theorem norm_norm (l : List Int) : xA (xA l) = xA l := norm_ext (jr l)
def mul (f g : Nat → Int) : Nat → Int
 | 0 => f 0 * g 0
 | n + 1 => f 0 * g (n + 1) + mul (fun i => f (i + 1)) g n
theorem wX {f f' g g' : Nat → Int} (h : ∀ i, f i = f' i) (k : ∀ i, g i = g' i) : ∀ n, mul f g n = mul f' g' n := by
 obtain rfl : f = f' := funext h
 obtain rfl : g = g' := funext k
 intro n; rfl
theorem mul_back : ∀ (n : Nat) (f g : Nat → Int), mul f g (n + 1) = mul f (fun i => g (i + 1)) n + f (n + 1) * g 0
  | 0, f, g => rfl
  | n + 1, f, g => by
    have h := mul_back n (fun i => f (i + 1)) g
    show f 0 * g (n + 2) + mul (fun i => f (i + 1)) g (n + 1) = (f 0 * g (n + 2) + mul (fun i => f (i + 1)) (fun i => g (i + 1)) n) + f (n + 2) * g 0
    rw [h]
    show _ = _ + f (n + 1 + 1) * g 0
    exact (Int.add_assoc _ _ _).symm
theorem mul_comm : ∀ (n : Nat) (f g : Nat → Int), mul f g n = mul g f n
  | 0, f, g => Int.mul_comm _ _
  | n + 1, f, g => by
    rw [mul_back, mul_comm n f, Int.mul_comm (f (n + 1))]
    show _ = g 0 * f (n + 1) + mul (fun i => g (i + 1)) f n
    omega
theorem add_mul (f f' g : Nat → Int)  (n : Nat) : mul (fun i => f i + f' i) g n = mul f g n + mul f' g n := by
    induction n generalizing f f' with
    | zero => exact Int.add_mul _ _ _
    | succ n ih =>
      have h := ih (fun i => f (i + 1)) (fun i => f' (i + 1))
      have e := Int.add_mul (f 0) (f' 0) (g (n + 1))
      show (f 0 + f' 0) * g (n + 1) + mul (fun i => f (i + 1) + f' (i + 1)) g n = _
      rw [h, e]
      show _ = (f 0 * g (n + 1) + mul (fun i => f (i + 1)) g n) + (f' 0 * g (n + 1) + mul (fun i => f' (i + 1)) g n)
      omega
theorem smul_mul (c : Int) (f g : Nat → Int)  (n : Nat) : mul (fun i => c * f i) g n = c * mul f g n := by
    induction n generalizing f with
    | zero => exact Int.mul_assoc _ _ _
    | succ n ih =>
      have h := ih (fun i => f (i + 1))
      show c * f 0 * g (n + 1) + mul (fun i => c * f (i + 1)) g n = c * (f 0 * g (n + 1) + mul (fun i => f (i + 1)) g n)
      rw [h, Int.mul_add, Int.mul_assoc]
theorem mul_add (f g g' : Nat → Int) (n : Nat) : mul f (fun i => g i + g' i) n = mul f g n + mul f g' n := by
 rw [mul_comm, add_mul, mul_comm n g, mul_comm n g']
theorem mul_assoc (f g h : Nat → Int)  (n : Nat) : mul (mul f g) h n = mul f (mul g h) n := by
    induction n generalizing f g with
    | zero => exact Int.mul_assoc _ _ _
    | succ n ih =>
      show f 0 * g 0 * h (n + 1) + mul (fun i => f 0 * g (i + 1) + mul (fun i => f (i + 1)) g i) h n = f 0 * (g 0 * h (n + 1) + mul (fun i => g (i + 1)) h n) + mul (fun i => f (i + 1)) (mul g h) n
      rw [add_mul, smul_mul, ih, Int.mul_add, Int.mul_assoc]
      omega
theorem zero_mul (g : Nat → Int) (n : Nat) : mul (fun _ => 0) g n = 0 := by
 have h := smul_mul 0 (fun _ => 0) g n
 exact h.trans (Int.zero_mul _)
theorem wH : ∀ {n A B : Nat} {f g : Nat → Int}, (∀ i, A ≤ i → f i = 0) → (∀ i, B ≤ i → g i = 0) → A + B ≤ n + 1 → mul f g n = 0
  | n, 0, B, f, g, hf, hg, h => by rw [wX (f' := fun _ => 0) (fun i => hf i (Nat.zero_le _)) (fun _ => rfl), zero_mul]
  | 0, A + 1, B, f, g, hf, hg, h => by
    show f 0 * g 0 = 0
    rw [hg 0 (by omega), Int.mul_zero]
  | n + 1, A + 1, B, f, g, hf, hg, h => by
    show f 0 * g (n + 1) + mul (fun i => f (i + 1)) g n = 0
    rw [wH (A := A) (B := B) (fun i hi => hf (i + 1) (by omega)) hg (by omega), hg (n + 1) (by omega), Int.mul_zero]
    rfl
theorem bX : ∀ {A B : Nat} {f g : Nat → Int}, (∀ i, A < i → f i = 0) → (∀ i, B < i → g i = 0) → mul f g (A + B) = f A * g B
  | 0, 0, f, g, _, _ => rfl
  | 0, B + 1, f, g, hf, hg => by
    rw [Nat.zero_add]
    show f 0 * g (B + 1) + mul (fun i => f (i + 1)) g B = _
    rw [wX (f' := fun _ => 0) (fun i => hf (i + 1) (by omega)) (fun _ => rfl), zero_mul]; omega
  | A + 1, B, f, g, hf, hg => by
    rw [show A + 1 + B = (A + B) + 1 by omega]
    show f 0 * g (A + B + 1) + mul (fun i => f (i + 1)) g (A + B) = _
    rw [bX (fun i hi => hf (i + 1) (by omega)) hg, hg (A + B + 1) (by omega)]
    omega
end Go.Pz
namespace Go.En
open Go.RowKit Go.Nt Go.Pz
abbrev nz (z : Int) : Bool × List Nat := (decide (z < 0), zA z.natAbs)
def vals (xs : List (Bool × List Nat)) : List Int := xs.map fun p => zv p.1 p.2
abbrev isP (l : List Int) : VP := SlK 2 zc (l.map nz)
theorem nz_zero : nz 0 = (false, []) := by
 show (decide ((0 : Int) < 0), zA (Int.natAbs 0)) = (false, [])
 rw [Int.natAbs_zero, zF]; rfl
theorem zP (l : List Int) : vals (l.map nz) = l := by
 unfold vals
 rw [List.map_map]
 conv => rhs; rw [← List.map_id l]
 exact List.map_congr_left fun z _ => zH z
theorem qJ (xs : List (Bool × List Nat)) : (vals xs).length = xs.length := by unfold vals; rw [List.length_map]
theorem zv_dflt : zv false [] = 0 := by rw [bt]; rfl
theorem zi (xs : List (Bool × List Nat)) (i : Nat) : cf (vals xs) i = zv (xs.getD i (false, [])).1 (xs.getD i (false, [])).2 := by
 unfold cf vals
 rw [List.getD, List.getD, List.getElem?_map]
 cases xs[i]? with
 | none => exact zv_dflt.symm
 | some p => rfl
theorem dl (xs : List (Bool × List Nat)) (n : Nat) : vals (xs.take n) = (vals xs).take n := by unfold vals; rw [List.map_take]
def fill {β : Type} (l : List β) (i : Nat) (z : β) : List β := l.take i ++ List.replicate (l.length - i) z
theorem eO {β : Type} (l : List β) (z : β) : fill l 0 z = List.replicate l.length z := by simp [fill]
theorem fill_all {β : Type} (l : List β) (z : β) : fill l l.length z = l := by simp [fill]
theorem aQ {β : Type} (l : List β) (i : Nat) (z : β) (h : i ≤ l.length) : (fill l i z).length = l.length := by
 unfold fill; rw [List.length_append, List.length_take, List.length_replicate]; omega
theorem fill_set {β : Type} (l : List β) (i : Nat) (z x : β) (h : l[i]? = some x) : (fill l i z).set i x = fill l (i + 1) z := by
 have hi : i < l.length := by
  rcases Nat.lt_or_ge i l.length with h1 | h1
  ·exact h1
  ·rw [List.getElem?_eq_none h1] at h; cases h
 rw [List.getElem?_eq_getElem hi] at h
 unfold fill
 rw [List.set_append_right _ _ (by rw [List.length_take]; omega), List.length_take, Nat.min_eq_left (by omega), Nat.sub_self, show l.length - i = (l.length - (i + 1)) + 1 by omega, List.replicate_succ, List.set_cons_zero,
  List.take_succ_eq_append_getElem hi, List.append_assoc, Option.some.inj h]; rfl
section
variable {E : Env} {P : Program} {Γ : Ctx} {M : Mem} {x : Operand}
theorem Has.okP {xs : List (Bool × List Nat)} (h : Has E Γ M x (SlK 2 zc xs)) : ∀ a w F, Sat E Γ M a w F → ∀ p ∈ xs, (∀ y ∈ p.2, y < 18446744073709551616) ∧ p.2.length ≤ 9223372036854775807 := by
 intro a w F s p hp
 obtain ⟨ad, cap, e, g1, g2, g3, g4⟩ := h a w F s
 obtain ⟨i, hi, rfl⟩ := List.mem_iff_getElem.1 hp
 rcases g4 with g4 | ⟨b, off, _, _, vs, hv, _⟩
 ·omega
 ·have hd := (hv.drop (i * 2)).take 2
  rw [vb xs i xs[i] (fun y _ => zO y) (List.getElem?_eq_getElem hi)] at hd
  obtain ⟨v, _, ad, cap, e, g1, g2, g3, g4⟩ := hd.get 1 (zD xs[i].2) rfl
  refine ⟨fun y hy => ?_, by rw [zf] at g2; omega⟩
  obtain ⟨j, hj, rfl⟩ := List.mem_iff_getElem.1 hy
  rcases g4 with g4 | ⟨b, off, _, _, us, hu, _⟩
  ·omega
  ·obtain ⟨u, _, h2⟩ := hu.get j (isU xs[i].2[j]) (by simp [hj])
   exact h2.2
end
end Go.En
namespace Go.Pz
theorem xF (n : Nat) (f : Nat → Int) (i : Nat) : cf ((List.range n).map f) i = if i < n then f i else 0 := by
 unfold cf
 rw [List.getD, List.getElem?_map]
 by_cases h : i < n
 ·rw [List.getElem?_range h, if_pos h]; rfl
 ·rw [List.getElem?_eq_none (by simpa using h), if_neg h]; rfl
def both (op : Int → Int → Int) (a b : List Int) : List Int := xA ((List.range (max a.length b.length)).map fun i => op (cf a i) (cf b i))
theorem cf_both {op : Int → Int → Int} (h : op 0 0 = 0) (a b : List Int) (i : Nat) : cf (both op a b) i = op (cf a i) (cf b i) := by
 unfold both
 rw [jr, xF]
 split
 ·rfl
 ·rw [xS (l := a) (by omega), xS (l := b) (by omega), h]
def padd (a b : List Int) : List Int := both (fun x y => x + y) a b
def psub (a b : List Int) : List Int := both (fun x y => x - y) a b
theorem cf_add (a b : List Int) (i : Nat) : cf (padd a b) i = cf a i + cf b i := cf_both (by rfl) a b i
theorem cf_sub (a b : List Int) (i : Nat) : cf (psub a b) i = cf a i - cf b i := cf_both (by rfl) a b i
def cV (a : List Int) (n : Nat) : List Int := List.replicate n 0 ++ a
theorem cf_shift (a : List Int) (n i : Nat) : cf (cV a n) i = if i < n then 0 else cf a (i - n) := by
 unfold cf cV
 rw [List.getD]
 by_cases h : i < n
 ·rw [List.getElem?_append_left (by simpa using h), if_pos h, List.getElem?_replicate, if_pos h]; rfl
 ·rw [List.getElem?_append_right (by simpa using Nat.le_of_not_lt h), if_neg h, List.length_replicate]; rfl
def rows (f g : Nat → Int) : Nat → Nat → Int
 | 0, _ => 0
 | i + 1, n => rows f g i n + if i ≤ n then f i * g (n - i) else 0
theorem cM (f g : Nat → Int) : ∀ i n, rows f g (i + 1) (n + 1) = f 0 * g (n + 1) + rows (fun j => f (j + 1)) g i n
  | 0, n => by
    show 0 + (if 0 ≤ n + 1 then f 0 * g (n + 1 - 0) else 0) = f 0 * g (n + 1) + 0
    rw [if_pos (Nat.zero_le _), Int.zero_add, Int.add_zero]; rfl
  | i + 1, n => by
    have h := cM f g i n
    show rows f g (i + 1) (n + 1) + (if i + 1 ≤ n + 1 then f (i + 1) * g (n + 1 - (i + 1)) else 0) = f 0 * g (n + 1) + (rows (fun j => f (j + 1)) g i n + if i ≤ n then f (i + 1) * g (n - i) else 0)
    rw [h, Int.add_assoc]
    congr 2
    by_cases hi : i ≤ n
    · rw [if_pos hi, if_pos (by omega), Nat.succ_sub_succ]
    · rw [if_neg hi, if_neg (by omega)]
theorem dq (f g : Nat → Int) : ∀ i, rows f g (i + 1) 0 = f 0 * g 0
  | 0 => by show 0 + (if 0 ≤ 0 then f 0 * g (0 - 0) else 0) = _; rw [if_pos (Nat.le_refl _), Int.zero_add]
  | i + 1 => by
    show rows f g (i + 1) 0 + (if i + 1 ≤ 0 then _ else 0) = _
    rw [dq f g i, if_neg (by omega), Int.add_zero]
theorem mul_rows : ∀ (n : Nat) (f g : Nat → Int), mul f g n = rows f g (n + 1) n
  | 0, f, g => (dq f g 0).symm
  | n + 1, f, g => by
    rw [cM, ← mul_rows n]; rfl
theorem ae (f g : Nat → Int) {A n : Nat} (h : ∀ i, A ≤ i → i ≤ n → f i = 0) : ∀ d, rows f g (A + d) n = rows f g A n
  | 0 => rfl
  | d + 1 => by
    show rows f g (A + d) n + (if A + d ≤ n then f (A + d) * g (n - (A + d)) else 0) = _
    rw [ae f g h d]
    split
    · rename_i hd; rw [h _ (by omega) hd, Int.zero_mul, Int.add_zero]
    · rw [Int.add_zero]
theorem rows_all {f g : Nat → Int} {A : Nat} (h : ∀ i, A ≤ i → f i = 0) (n : Nat) : rows f g A n = mul f g n := by
 rw [mul_rows]
 rcases Nat.le_total A (n + 1) with h1 | h1
 ·have := ae f g (n := n) (fun i hi _ => h i hi) (n + 1 - A)
  rw [show A + (n + 1 - A) = n + 1 by omega] at this
  exact this.symm
 ·have := ae f g (A := n + 1) (n := n) (fun i hi hn => by omega) (A - (n + 1))
  rwa [show n + 1 + (A - (n + 1)) = A by omega] at this
def pmul (a b : List Int) : List Int := if xA a = [] ∨ xA b = [] then [] else xA ((List.range ((xA a).length + (xA b).length - 1)).map fun n => mul (cf a) (cf b) n)
theorem eG {l : List Int} {i : Nat} (h : (xA l).length ≤ i) : cf l i = 0 := by rw [← jr]; exact xS h
theorem cf_pmul (a b : List Int) (n : Nat) : cf (pmul a b) n = mul (cf a) (cf b) n := by
 unfold pmul
 split
 ·rename_i h
  rcases h with h | h
  ·rw [wX (f' := fun _ => 0) (norm_nil.1 h) (fun _ => rfl), zero_mul]; rfl
  ·rw [mul_comm, wX (f' := fun _ => 0) (norm_nil.1 h) (fun _ => rfl), zero_mul]; rfl
 ·rename_i h
  rw [jr, xF]
  split
  ·rfl
  ·have h1 : 0 < (xA a).length := List.length_pos_iff.2 fun e => h (.inl e)
   exact (wH (A := (xA a).length) (B := (xA b).length) (fun i hi => eG hi) (fun i hi => eG hi) (by omega)).symm
def rowV (f g : Nat → Int) (i k n : Nat) : Int := rows f g i n + if i ≤ n ∧ n < i + k then f i * g (n - i) else 0
def rowL (f g : Nat → Int) (N i k : Nat) : List Int := (List.range N).map (rowV f g i k)
theorem rowL_len (f g : Nat → Int) (N i k : Nat) : (rowL f g N i k).length = N := by unfold rowL; rw [List.length_map, List.length_range]
end Go.Pz
namespace Go.Pz
theorem mul_zero (f : Nat → Int) (n : Nat) : mul f (fun _ => 0) n = 0 := by rw [mul_comm, zero_mul]
end Go.Pz
namespace Go.Pz
open Go.Nt Go.En
def Bd (l : List Int) (K : Nat) : Prop := ∀ i, (List.length (zA (cf l i).natAbs)) ≤ K
theorem Bd.mono {l : List Int} {K L : Nat} (h : Bd l K) (hk : K ≤ L) : Bd l L := fun i => Nat.le_trans (h i) hk
theorem Bd.nil (K : Nat) : Bd [] K := fun i => by rw [cf_nil, Int.natAbs_zero, zF]; exact Nat.zero_le _
theorem Bd.add {a b : List Int} {K : Nat} (h : Bd a K) (k : Bd b K) : Bd (padd a b) (K + 1) := fun i => by
 rw [cf_add]
 have := xU (cf a i) (cf b i)
 have := h i
 have := k i
 omega
theorem Bd.sub {a b : List Int} {K : Nat} (h : Bd a K) (k : Bd b K) : Bd (psub a b) (K + 1) := fun i => by
 rw [cf_sub]
 have := nz_sub (cf a i) (cf b i)
 have := h i
 have := k i
 omega
theorem Bd.shift {a : List Int} {K : Nat} (h : Bd a K) (n : Nat) : Bd (cV a n) K := fun i => by
 rw [cf_shift]
 split
 ·rw [Int.natAbs_zero, zF]; exact Nat.zero_le _
 ·exact h _
theorem rows_nw {a b : List Int} {K L : Nat} (h : Bd a K) (k : Bd b L) : ∀ i n, (List.length (zA (rows (cf a) (cf b) i n).natAbs)) ≤ K + L + i
  | 0, n => by
    show (List.length (zA (Int.natAbs 0))) ≤ _
    rw [Int.natAbs_zero, zF]; exact Nat.zero_le _
  | i + 1, n => by
    show (List.length (zA (rows (cf a) (cf b) i n + if i ≤ n then cf a i * cf b (n - i) else 0).natAbs)) ≤ _
    have h1 := rows_nw h k i n
    have h2 : (List.length (zA (if i ≤ n then cf a i * cf b (n - i) else 0).natAbs)) ≤ K + L := by
      split
      · have := qD (cf a i) (cf b (n - i))
        have := h i
        have := k (n - i)
        omega
      · rw [Int.natAbs_zero, zF]; exact Nat.zero_le _
    have := xU (rows (cf a) (cf b) i n) (if i ≤ n then cf a i * cf b (n - i) else 0)
    omega
theorem Bd.mul {a b : List Int} {K L : Nat} (h : Bd a K) (k : Bd b L) : Bd (pmul a b) (K + L + a.length) := fun n => by
 rw [cf_pmul, ← rows_all (A := a.length) (fun i hi => xS hi)]
 exact rows_nw h k _ _
theorem Bd.raw {xs : List (Bool × List Nat)} {K : Nat} (h : Bd (vals xs) K) (i : Nat) : (List.length (zA (val (xs.getD i (false, [])).2))) ≤ K := by
 have := h i
 rwa [zi, xZ] at this
theorem same_iff {a b : List Int} : xA (psub a b) = [] ↔ ∀ i, cf a i = cf b i :=
 norm_nil.trans ⟨fun h i => by have := h i; rw [cf_sub] at this; omega, fun h i => by rw [cf_sub]; have := h i; omega⟩
theorem sub_nil {a b : List Int} : psub a b = [] ↔ ∀ i, cf a i = cf b i := by
 rw [← same_iff]
 have : xA (psub a b) = psub a b := norm_norm _
 rw [this]
end Go.Pz
namespace Go.En
open Go.Nt Go.Pz
def PR (K : Nat) : Type := { p : (Bool × List Nat) × (Bool × List Nat) // (List.length (zA (val p.1.2))) ≤ K ∧ (List.length (zA (val p.2.2))) ≤ K }
theorem memF_eq {b : Option Nat} {l : List (Bool × List Nat)} {i : Nat} {z x : Bool × List Nat} {r : Mem} (h : l[i]? = some x) : ((b, zB (((fill l i z).set i x).flatMap zc)) :: r : Mem) = (b, zB ((fill l (i + 1) z).flatMap zc)) :: r := by rw [fill_set _ _ _ _ h]
theorem memZ_eq {b : Option Nat} {l l' : List (Bool × List Nat)} {r : Mem} (h : l = l') : ((b, zB (l.flatMap zc)) :: r : Mem) = (b, zB (l'.flatMap zc)) :: r := h ▸ rfl
theorem vl {l : List Int} {i : Nat} (h : i < l.length) : l[i]? = some (cf l i) := by
 unfold cf; rw [List.getD, List.getElem?_eq_getElem h]; rfl
theorem fill_done {β : Type} {l : List β} {i n : Nat} {z : β} (h : i = l.length) (hn : n = l.length) : (fill l i z).take n = l := by
 subst h; subst hn; rw [fill_all, List.take_length]
theorem wj (l : List Int) (i : Nat) (h : i < l.length) : (l.take i).map nz ++ [nz (cf l i)] = (l.take (i + 1)).map nz := by
 rw [List.take_succ_eq_append_getElem h, List.map_append]
 unfold cf
 rw [List.getD, List.getElem?_eq_getElem h]; rfl
end Go.En
namespace Go.Gf
def ch : Nat → Nat → Nat
 | _, 0 => 1
 | 0, _ + 1 => 0
 | n + 1, k + 1 => ch n k + ch n (k + 1)
def S (a n : Nat) : Nat → Nat
 | 0 => 0
 | m + 1 => S a n m + ch n m * a ^ m
end Go.Gf
namespace Go.Gf
end Go.Gf
namespace Go.Gf
theorem half (y : Nat) {k : Nat} (hk : 0 < k) : y / 2 ^ (k - 1) = 2 * (y / 2 ^ k) + y / 2 ^ (k - 1) % 2 := by
 have : y / 2 ^ k = y / 2 ^ (k - 1) / 2 := by
  rw [Nat.div_div_eq_div_mul, ← Nat.pow_succ]; congr 2; omega
 omega
theorem dy {x y p k o : Nat} (hk : 0 < k) (h : o = x * (y / 2 ^ k) % p) (hb : ¬ y / 2 ^ (k - 1) % 2 = 1) : 2 * o % p = x * (y / 2 ^ (k - 1)) % p := by
 have e := half y hk
 rw [h, Nat.mul_mod_mod]
 congr 1
 rw [e, show y / 2 ^ (k - 1) % 2 = 0 by omega]; grind
end Go.Gf
namespace Go.Gf
end Go.Gf
namespace Go.Gf
end Go.Gf
namespace Go.Pz
open Go.Gf
theorem dA {P : Nat → Prop} (h : ¬ ∀ i, P i) : ∃ i, ¬ P i ∧ ∀ k, k < i → P k := by
  obtain ⟨n, hn⟩ : ∃ n, ¬ P n := Classical.byContradiction fun hk => h fun i => Classical.byContradiction fun hi => hk ⟨i, hi⟩
  induction n using Nat.strongRecOn with
  | ind n ih =>
    by_cases hc : ∀ k, k < n → P k
    · exact ⟨n, hn, hc⟩
    · obtain ⟨k, hk⟩ : ∃ k, ¬ (k < n → P k) := Classical.byContradiction fun hk => hc fun i => Classical.byContradiction fun hi => hk ⟨i, hi⟩
      exact ih k (Nat.lt_of_not_le fun hle => hk fun hlt => absurd hlt (by omega)) fun hp => hk fun _ => hp
end Go.Pz
namespace Go.Pz
open Go.Nt Go.En
theorem dp (a : List Int) (n : Nat) : (cV a n).length = n + a.length := by unfold cV; rw [List.length_append, List.length_replicate]
theorem aw (z : Int) : zv (nz z).1 (nz z).2 = z := zH z
theorem Bd.one {z : Int} {K : Nat} (h : (List.length (zA z.natAbs)) ≤ K) : Bd [z] K := fun i => by
 cases i with
 | zero => exact h
 | succ i => rw [bq, cf_nil, Int.natAbs_zero, zF]; exact Nat.zero_le _
theorem Bd.cons {z : Int} {l : List Int} {K : Nat} (h : (List.length (zA z.natAbs)) ≤ K) (k : Bd l K) : Bd (z :: l) K := fun i => by
 cases i with
 | zero => exact h
 | succ i => exact k i
end Go.Pz
namespace Go.En
open Go.Nt Go.Pz
theorem zM0 {k : Nat} {r : Mem} : ((some k, zB [isB false, SlM isU []]) :: r : Mem) = zM k 0 :: r := by
 show _ = (some k, zB [isB (decide ((0 : Int) < 0)), SlM isU (zA (0 : Int).natAbs)]) :: r
 rw [Int.natAbs_zero, zF]; rfl
theorem getZ {l : List Int} {i : Nat} (h : i < l.length) : (l.map nz)[i]? = some (nz (cf l i)) := by rw [List.getElem?_map, vl h]; rfl
theorem bd64 {l : List Int} (h : ∀ y ∈ l, -9223372036854775808 ≤ y ∧ y < 9223372036854775808) : Bd l 1 := fun i => by
 rcases Nat.lt_or_ge i l.length with hi | hi
 ·have := h (cf l i) (List.mem_of_getElem? (vl hi))
  exact zz (by omega)
 ·rw [xS hi, Int.natAbs_zero, zF]; exact Nat.zero_le _
end Go.En
namespace Go.En
open Go.RowKit Go.Nt Go.Pz
abbrev isQ (q : Rat) : VP := Flat [isB (decide (q.num < 0)), SlM isU (zA q.num.natAbs), isB (decide ((q.den : Int) < 0)), SlM isU (zA ((q.den : Int)).natAbs)]
theorem qk {p q : Rat} (h : p = q) : isQ p = isQ q := h ▸ rfl
def qs (q : Rat) : Nat := max ((List.length (zA q.num.natAbs))) ((List.length (zA q.den)))
theorem qo {q : Rat} {K : Nat} (h : qs q ≤ K) : (List.length (zA q.num.natAbs)) ≤ K := Nat.le_trans (Nat.le_max_left _ _) h
theorem qs_den {q : Rat} {K : Nat} (h : qs q ≤ K) : (List.length (zA q.den)) ≤ K := Nat.le_trans (Nat.le_max_right _ _) h
theorem vK {q : Rat} {K : Nat} (h : qs q ≤ K) : (List.length (zA ((q.den : Int)).natAbs)) ≤ K := by rw [Int.natAbs_natCast]; exact qs_den h
theorem qs_le {q : Rat} {K : Nat} (h1 : (List.length (zA q.num.natAbs)) ≤ K) (h2 : (List.length (zA q.den)) ≤ K) : qs q ≤ K := Nat.max_le.2 ⟨h1, h2⟩
theorem mk_num {N D : Int} (hD : 0 < D) {q : Rat} (hq : q = Rat.divInt N D) : (((Nat.gcd N.natAbs D.natAbs : Nat) : Int) ≠ 0 ∧ N.tmod ((Nat.gcd N.natAbs D.natAbs : Nat) : Int) = 0) ∧ N.tdiv ((Nat.gcd N.natAbs D.natAbs : Nat) : Int) = q.num ∧
  (((Nat.gcd N.natAbs D.natAbs : Nat) : Int) ≠ 0 ∧ D.tmod ((Nat.gcd N.natAbs D.natAbs : Nat) : Int) = 0) ∧ D.tdiv ((Nat.gcd N.natAbs D.natAbs : Nat) : Int) = (q.den : Int) := by
 have hg : 0 < Nat.gcd N.natAbs D.natAbs := Nat.gcd_pos_of_pos_right _ (by omega)
 have h1 : ((Nat.gcd N.natAbs D.natAbs : Nat) : Int) ∣ N := Int.ofNat_dvd_left.2 (Nat.gcd_dvd_left _ _)
 have h2 : ((Nat.gcd N.natAbs D.natAbs : Nat) : Int) ∣ D := Int.ofNat_dvd_left.2 (Nat.gcd_dvd_right _ _)
 have e : (Int.gcd D N) = Nat.gcd N.natAbs D.natAbs := by rw [Int.gcd_comm]; rfl
 refine ⟨⟨by omega, Int.tmod_eq_zero_of_dvd h1⟩, ?_, ⟨by omega, Int.tmod_eq_zero_of_dvd h2⟩, ?_⟩
 ·rw [hq, Rat.num_divInt, Int.sign_eq_one_of_pos hD, Int.one_mul, e, Int.tdiv_eq_ediv_of_dvd h1]
 ·rw [hq, Rat.den_divInt, if_neg (by omega), e, Int.tdiv_eq_ediv_of_dvd h2, Int.natCast_ediv, Int.natAbs_of_nonneg (by omega)]
theorem ai {N D : Int} {K : Nat} (hD : D ≠ 0) (h1 : (List.length (zA N.natAbs)) ≤ K) (h2 : (List.length (zA D.natAbs)) ≤ K) : qs (Rat.divInt N D) ≤ K := by
 refine qs_le ?_ ?_
 ·rw [Rat.num_divInt]
  refine Nat.le_trans (ze ?_) h1
  have hg : 0 < Int.gcd D N := Int.gcd_pos_of_ne_zero_left _ hD
  rw [Int.natAbs_ediv_of_dvd (Int.dvd_trans (Int.gcd_dvd_right _ _) ⟨D.sign, Int.mul_comm _ _⟩), Int.natAbs_natCast, Int.natAbs_mul, Int.natAbs_sign_of_ne_zero hD, Nat.one_mul]
  exact Nat.div_le_self _ _
 ·rw [Rat.den_divInt, if_neg hD]
  exact Nat.le_trans (ze (Nat.div_le_self _ _)) h2
theorem qs_int (x : Int) {K : Nat} (hK : 1 ≤ K) (h : (List.length (zA x.natAbs)) ≤ K) : qs (x : Rat) ≤ K := qs_le (by show (List.length (zA ((x : Rat).num).natAbs)) ≤ _; rw [Rat.num_intCast]; exact h) (by rw [Rat.den_intCast]; exact Nat.le_trans (zz (by decide)) hK)
theorem xp (q : Rat) : ((q.den : Nat) : Int) ≠ 0 := by have := q.den_nz; omega
theorem bo (q : Rat) : 0 < ((q.den : Nat) : Int) := by have := q.den_nz; omega
theorem dP (p q : Rat) : Rat.divInt (p.num * q.den + q.num * p.den) (p.den * q.den) = p + q := by
 rw [← Rat.divInt_add_divInt _ _ (xp p) (xp q), Rat.num_divInt_den, Rat.num_divInt_den]
theorem cd (p q : Rat) : Rat.divInt (p.num * q.num) (p.den * q.den) = p * q := by
 rw [← Rat.divInt_mul_divInt, Rat.num_divInt_den, Rat.num_divInt_den]
theorem cS (p q : Rat) : Rat.divInt (p.num * q.den) (p.den * q.num) = p / q := by
 rw [← Rat.divInt_mul_divInt, Rat.num_divInt_den, Rat.div_def, ← Rat.inv_divInt, Rat.num_divInt_den]
theorem ew {p q : Rat} {A B : Nat} (hp : qs p ≤ A) (hq : qs q ≤ B) : qs (p + q) ≤ A + B + 1 := by
 have h1 := xU (p.num * q.den) (q.num * p.den)
 have h2 := qD p.num q.den
 have h3 := qD q.num p.den
 have h4 := qD p.den q.den
 have g1 := qo hp
 have g2 := vK hp
 have g3 := qo hq
 have g4 := vK hq
 rw [← dP]
 exact ai (Int.mul_ne_zero (xp p) (xp q)) (by omega) (by omega)
theorem ah {p q : Rat} {A B : Nat} (hp : qs p ≤ A) (hq : qs q ≤ B) : qs (p * q) ≤ A + B := by
 have h2 := qD p.num q.num
 have h4 := qD p.den q.den
 have g1 := qo hp
 have g2 := vK hp
 have g3 := qo hq
 have g4 := vK hq
 rw [← cd]
 exact ai (Int.mul_ne_zero (xp p) (xp q)) (by omega) (by omega)
theorem qs_neg {p : Rat} {A : Nat} (hp : qs p ≤ A) : qs (-p) ≤ A := qs_le (by rw [Rat.neg_num, Int.natAbs_neg]; exact qo hp) (by rw [Rat.neg_den]; exact qs_den hp)
theorem qs_sub {p q : Rat} {A B : Nat} (hp : qs p ≤ A) (hq : qs q ≤ B) : qs (p - q) ≤ A + B + 1 := by rw [Rat.sub_eq_add_neg]; exact ew hp (qs_neg hq)
theorem num_ne {q : Rat} (h : q ≠ 0) : q.num ≠ 0 := fun e => h (Rat.num_eq_zero.1 e)
theorem cT {p q : Rat} {A B : Nat} (hp : qs p ≤ A) (hq : qs q ≤ B) : qs (p / q) ≤ A + B := by
 by_cases h0 : q = 0
 ·subst h0
  rw [show p / (0 : Rat) = 0 by rw [Rat.div_def]; show p * (0 : Rat)⁻¹ = 0; rw [show (0 : Rat)⁻¹ = 0 by (rw [Rat.inv_def]; exact Rat.divInt_zero _), Rat.mul_zero]]
  refine qs_le (by rw [Rat.zero_num, Int.natAbs_zero, zF]; exact Nat.zero_le _) ?_
  have := qs_den hp
  have hd : 1 ≤ (List.length (zA p.den)) := by rw [vj p.den_nz]; omega
  rw [Rat.zero_den]
  exact Nat.le_trans (zz (by decide)) (by omega)
 ·have h2 := qD p.num q.den
  have h4 := qD p.den q.num
  have g1 := qo hp
  have g2 := vK hp
  have g3 := qo hq
  have g4 := vK hq
  rw [← cS]
  exact ai (Int.mul_ne_zero (xp p) (num_ne h0)) (by omega) (by omega)
/-! ### signs, order -/
theorem num_neg_iff {q : Rat} : q.num < 0 ↔ q < 0 := by
 rw [Rat.lt_iff]; show _ ↔ q.num * 1 < (0 : Int) * _; rw [Int.zero_mul, Int.mul_one]
def rnd (q : Rat) : Int := (q.num + q.num + q.den) / (q.den + q.den)
theorem rnd_le (q : Rat) : 2 * (rnd q : Rat) ≤ 2 * q + 1 := by
 have hd := bo q
 have h := Int.ediv_mul_le (q.num + q.num + q.den) (b := q.den + q.den) (by omega)
 have h1 : 2 * (rnd q : Rat) * q.den ≤ 2 * q.num + q.den := by
  have : ((rnd q * (q.den + q.den) : Int) : Rat) ≤ ((q.num + q.num + q.den : Int) : Rat) := Rat.intCast_le_intCast.2 h
  rw [Rat.intCast_mul, Rat.intCast_add, Rat.intCast_add, Rat.intCast_add] at this
  rw [show ((q.den : Int) : Rat) = (q.den : Rat) from rfl] at this
  grind
 have hdp : (0 : Rat) < (q.den : Rat) := Rat.natCast_pos.2 (by omega)
 have hq : q * q.den = q.num := by
  have := Rat.div_mul_cancel (a := (q.num : Rat)) (b := (q.den : Rat)) (by grind)
  rw [← this]
  have e := Rat.num_divInt_den q
  rw [Rat.divInt_eq_div] at e
  rw [show ((q.den : Int) : Rat) = (q.den : Rat) from rfl] at e
  rw [e]
 exact Rat.le_of_mul_le_mul_right (c := (q.den : Rat)) (by grind) hdp
theorem rnd_gt (q : Rat) : 2 * q < 2 * (rnd q : Rat) + 1 := by
 have hd := bo q
 have h := Int.lt_mul_ediv_self_add (x := q.num + q.num + q.den) (k := q.den + q.den) (by omega)
 have h1 : 2 * (q.num : Rat) + q.den < 2 * (rnd q : Rat) * q.den + 2 * q.den := by
  have : ((q.num + q.num + q.den : Int) : Rat) < (((q.den + q.den) * rnd q + (q.den + q.den) : Int) : Rat) := Rat.intCast_lt_intCast.2 h
  rw [Rat.intCast_add, Rat.intCast_add, Rat.intCast_add, Rat.intCast_mul, Rat.intCast_add] at this
  rw [show ((q.den : Int) : Rat) = (q.den : Rat) from rfl] at this
  grind
 have hdp : (0 : Rat) < (q.den : Rat) := Rat.natCast_pos.2 (by omega)
 have hq : q * q.den = q.num := by
  have := Rat.div_mul_cancel (a := (q.num : Rat)) (b := (q.den : Rat)) (by grind)
  rw [← this]
  have e := Rat.num_divInt_den q
  rw [Rat.divInt_eq_div] at e
  rw [show ((q.den : Int) : Rat) = (q.den : Rat) from rfl] at e
  rw [e]
 exact Rat.lt_of_mul_lt_mul_right (c := (q.den : Rat)) (by grind) (Rat.le_of_lt hdp)
theorem rnd_nw {q : Rat} {K : Nat} (h : qs q ≤ K) : (List.length (zA (rnd q).natAbs)) ≤ K + 2 := by
 have h1 := xU q.num q.num
 have h2 := xU (q.num + q.num) q.den
 have g1 := qo h
 have g2 := vK h
 have h3 : (rnd q).natAbs ≤ (q.num + q.num + q.den).natAbs := by
  unfold rnd
  exact Int.natAbs_ediv_le_natAbs _ _
 exact Nat.le_trans (ze h3) (by omega)
end Go.En
namespace Go.En
open Go.RowKit
section
variable {E : Env} {P : Program} {Γ : Ctx} {M : Mem} {ty : TypeId} {pos : String} {after : Array Edge}
 {ops : Array Oper} {Q : Exit → Act → World → Prop} {rest : List Oper}
theorem any_one {l : List Oper} {i fuel : Nat} {o : Oper} {listed : Array Bool} {a : Act} {w : World} (hr : ∀ j, j ∈ Region.ready .any l.toArray listed → j = i) (hi : i ∈ Region.ready .any l.toArray listed) (ho : l[i]? = some o)
  (hl : wpList P l.toArray Q (o :: rest) a w) (hn : ∀ a w, wpList P l.toArray Q rest a w → wpAny P .any l.toArray Q fuel (listed.setIfInBounds i true) a w) : wpAny P .any l.toArray Q (fuel + 1) listed a w := by
 refine ⟨fun h0 => ?_, fun j hj => ?_⟩
 ·rw [h0] at hi; simp at hi
 ·obtain rfl := hr j hj
  have ho' : l.toArray[j]? = some o := by simpa using ho
  unfold wpOp
  rw [ho']
  simp only []
  unfold wpList at hl
  split
  ·rename_i hw; rw [if_pos hw] at hl; exact hl.imp (Oper.wp_mono hn) id
  ·rename_i hw; rw [if_neg hw] at hl; exact hn _ _ hl
end
end Go.En
namespace Go.En
open Go.RowKit
section
variable {E : Env} {P : Program} {Γ : Ctx} {M : Mem} {ty : TypeId} {pos : String} {after : Array Edge}
 {ops : Array Oper} {Q : Exit → Act → World → Prop} {rest : List Oper}
def OKY (E : Env) (P : Program) (Γ : Ctx) (M : Mem) (o : Oper) (S : VP) : Prop :=
 ∀ a w F, Sat E Γ M a w F → ∃ v, (∀ w', (execOp a.eval o).run P w' = .ok (.value v) w') ∧ S.h w F v
theorem OKY.mv {d : Option Tmp} {x : Operand} {S : VP} (h : Has E Γ M x S) : OKY E P Γ M ⟨d, .move x, ty, pos, after, none⟩ S := fun a w F s => ⟨_, fun _ => rfl, h a w F s⟩
theorem OKY.as {d : Option Tmp} {x : Operand} {S : VP} (h : Has E Γ M x S) : OKY E P Γ M ⟨d, .assign x, ty, pos, after, none⟩ S := fun a w F s => ⟨_, fun _ => rfl, h a w F s⟩
theorem OKY.ext {d : Option Tmp} {x : Operand} {Ss : List VP} {S : VP} {i : Nat} (hx : Has E Γ M x (zQ Ss)) (hi : Ss[i]? = some S) : OKY E P Γ M ⟨d, .extract x i, ty, pos, after, none⟩ S := fun a w F s => by
 obtain ⟨vs, e, h⟩ := hx a w F s
 obtain ⟨v, hv, hS⟩ := h.get i S hi
 exact ⟨v, fun w' => by simp only [execOp, e]; simp [Instr.extract, hv, go_sem], hS⟩
theorem OKY.nilc {d : Option Tmp} {x : Operand} {b o : Nat} (h : Has E Γ M x (qM b o)) : OKY E P Γ M ⟨d, .nilCheck x, ty, pos, after, none⟩ (qM b o) := fun a w F s => by
 have e : a.eval x = .pointer (some ⟨b, o, none⟩) := h a w F s
 exact ⟨.pointer (some ⟨b, o, none⟩), fun w' => by simp only [execOp, e]; rfl, rfl⟩
theorem OK1.nilc {d : Option Tmp} {gd : Option (Nat × Bool)} {x : Operand} {b o : Nat} (h : Has E Γ M x (qM b o)) : OK1 E P Γ M ⟨d, .nilCheck x, ty, pos, after, gd⟩ (qM b o) := .run fun a w F s => by
 have e : a.eval x = .pointer (some ⟨b, o, none⟩) := h a w F s
 exact ⟨.pointer (some ⟨b, o, none⟩), by simp only [execOp, e]; rfl, rfl⟩
theorem OK1.nilcP {d : Option Tmp} {gd : Option (Nat × Bool)} {x : Operand} {Ss : List VP} (h : Has E Γ M x (PtrL Ss)) : OK1 E P Γ M ⟨d, .nilCheck x, ty, pos, after, gd⟩ (PtrL Ss) := .run fun a w F s => by
 have h1 := h a w F s
 obtain ⟨b, o, e, _⟩ := id h1
 exact ⟨.pointer (some ⟨b, o, none⟩), by simp only [execOp, e]; rfl, e ▸ h1⟩
theorem OKY.fieldAddr {d : Option Tmp} {x : Operand} {b off i o n : Nat} {g : Bool} {T T' : TypeId} (hx : Has E Γ M x (qM b off)) (hf : fldB P T i = some (o, T')) (ht : tyB P T' = some (n + 1, g)) :
    OKY E P Γ M ⟨d, .fieldAddr T x i, ty, pos, after, none⟩ (qM b (off + o)) := fun a w F s => by
    have h1 : a.eval x = .pointer (some ⟨b, off, none⟩) := hx a w F s
    refine ⟨_, fun w' => ?_, rfl⟩
    unfold fldB at hf
    cases hu : P.underlying T with
    | none => simp [hu] at hf
    | some dd =>
      rw [hu] at hf
      cases dd <;> simp at hf
      rename_i fs
      obtain ⟨f, hf1, hf2, hf3⟩ := hf
      subst hf2 hf3
      simp only [execOp, h1, Instr.fieldAt, Instr.sureAddr, fieldPlace, Sem.run_bind, Sem.run_pure, Result.andThen_ok, zy hu, zl ht, hf1]
      simp [qS]
def xj (n : Nat) (bs : List Nat) : Array Bool := bs.foldl (fun acc i => acc.setIfInBounds i true) (Array.replicate n false)
theorem dO (n : Nat) (bs : List Nat) (i : Nat) : xj n (bs ++ [i]) = (xj n bs).setIfInBounds i true := by unfold xj; rw [List.foldl_append]; rfl
theorem arrOf_size (n : Nat) (bs : List Nat) : (xj n bs).size = n := by
 unfold xj
 suffices h : ∀ (bs : List Nat) (acc : Array Bool), acc.size = n → (bs.foldl (fun acc i => acc.setIfInBounds i true) acc).size = n by exact h bs _ (by simp)
 intro bs
 induction bs with
 | nil => intro acc h; exact h
 | cons b bs ih => intro acc h; exact ih _ (by simp [h])
def DrB (E : Env) (P : Program) (l : List Oper) (Γ : Ctx) (M : Mem) (Q : Exit → Act → World → Prop) (bs : List Nat) : Prop :=
 ∀ a w F, Sat E Γ M a w F → wpAny P .any l.toArray Q (l.length - bs.length) (xj l.length bs) a w
theorem Tri.dry {id : Nat} {l : List Oper} (hm : P.follows .mixedOrders = true) (h : DrB E P l Γ M Q []) : Tri E P (.region id l.toArray true) Γ M Q := by
 intro a w F s
 refine wp_region_any hm ?_
 have := h a _ F (s.adv (Adv.drew w F))
 simpa [xj] using this
theorem DrB.take {l : List Oper} {bs : List Nat} {i d : Nat} {o : Oper} {S : VP} (hi : l[i]? = some o) (hd : o.dst = some d) (hg : o.guard = none) (hn : Nat.blt d E.n = true) (hs : Region.noSelect l.toArray = true)
  (hf : Region.free .any l.toArray (xj l.length bs) i = true) (hr : (Region.ready .any l.toArray (xj l.length bs)).contains i = true) (hl : Nat.blt bs.length l.length = true) (hQ : ∀ c a w v, Q (.panic c) (Act.put a (some d) v) w → Q (.panic c) a w)
  (hok : OKY E P Γ M o S) (k : DrB E P l ((d, S) :: Γ) M Q (bs ++ [i])) : DrB E P l Γ M Q bs := by
 intro a w F s
 obtain ⟨v, hv, hS⟩ := hok a w F s
 have hd' : d < E.n := by simpa [Nat.blt_eq] using hn
 have hl' : bs.length < l.length := by simpa [Nat.blt_eq] using hl
 have hk := k (a.put (some d) v) w F (s.put hd' hS)
 obtain ⟨f, hfu⟩ : ∃ f, l.length - bs.length = f + 1 := ⟨l.length - bs.length - 1, by omega⟩
 rw [hfu]
 refine wpAny_take (i := i) (oi := o) (v := v) (by simpa using hi) hs hf hr (fun c a w h => hQ c a w v (by rw [hd] at h; exact h)) (.inl ⟨by simp [Region.wanted, hg], hv⟩) ?_
 rw [hd, ← dO]
 rw [List.length_append, List.length_singleton, show l.length - (bs.length + 1) = f by omega] at hk
 exact hk
theorem DrB.tk {l : List Oper} {bs : List Nat} {d : Nat} {o : Oper} {S : VP} (i : Nat) (hi : l[i]? = some o) (hd : o.dst = some d) (hg : o.guard = none) (hn : Nat.blt d E.n = true) (hok : OKY E P Γ M o S) (k : DrB E P l ((d, S) :: Γ) M Q (bs ++ [i])) (hs : Region.noSelect l.toArray = true := by kernel_rfl) (hf : Region.free .any l.toArray (xj l.length bs) i = true := by kernel_rfl) (hr : (Region.ready .any l.toArray (xj l.length bs)).contains i = true := by kernel_rfl) (hl : Nat.blt bs.length l.length = true := by kernel_rfl) (hQ : ∀ c a w v, Q (.panic c) (Act.put a (some d) v) w → Q (.panic c) a w := by exact fun _ _ _ _ h => h) : DrB E P l Γ M Q bs :=
 DrB.take hi hd hg hn hs hf hr hl hQ hok k
def freeB (l : List Oper) (i : Nat) : Bool := match l[i]? with
 | none => false
 | some oi => (List.range l.length).all fun j => j == i || (((zo l [])[i]?).getD 0).testBit j || match l[j]? with
   | some oj => oj.after.any (fun e => Region.binds .any e && e.on == i) || oi.apart l.toArray oj
   | none => true
inductive DrL (E : Env) (P : Program) (l : List Oper) (Γ : Ctx) (M : Mem) (es : List Nat) : List Nat → List VP → Prop
 | nil : DrL E P l Γ M es [] []
 | snoc {i d : Nat} {az : List Nat} {Ss : List VP} {S : VP} {o : Oper} (Δ : Ctx) : DrL E P l Γ M es az Ss → l[i]? = some o → o.dst = some d → Nat.blt d E.n = true →
   (∀ t S, look Δ t = some S → (∃ (k j : Nat) (oj : Oper), az[k]? = some j ∧ (((zo l [])[i]?).getD 0).testBit j = true ∧ l[j]? = some oj ∧ oj.dst = some t ∧ Ss[k]? = some S) ∨ look Γ t = some S) →
   OKG E P l.toArray Δ M o S → (es.contains i = true → OKY E P Δ M o S ∧ o.guard = none) → DrL E P l Γ M es (az ++ [i]) (Ss ++ [S])
theorem DrL.at {l : List Oper} {es az : List Nat} {Ss : List VP} (h : DrL E P l Γ M es az Ss) : Ss.length = az.length ∧ ∀ (k i : Nat), az[k]? = some i → ∃ (o : Oper) (d : Nat) (S : VP) (Δ : Ctx), l[i]? = some o ∧ o.dst = some d ∧ d < E.n ∧ Ss[k]? = some S ∧
    (∀ t S, look Δ t = some S → (∃ (k j : Nat) (oj : Oper), az[k]? = some j ∧ (((zo l [])[i]?).getD 0).testBit j = true ∧ l[j]? = some oj ∧ oj.dst = some t ∧ Ss[k]? = some S) ∨ look Γ t = some S) ∧ OKG E P l.toArray Δ M o S ∧ (es.contains i = true → OKY E P Δ M o S ∧ o.guard = none) := by
  induction h with
  | nil => exact ⟨rfl, fun k i hk => by simp at hk⟩
  | @snoc i d az Ss S o Δ h0 h1 h2 h3 h4 h5 h6 ih =>
    obtain ⟨ih1, ih2⟩ := ih
    have up : ∀ {β : Type} (xs : List β) (x : β) (j : Nat) (T : β), xs[j]? = some T → (xs ++ [x])[j]? = some T := fun xs x j T hT => by
      have : j < xs.length := by
        rcases Nat.lt_or_ge j xs.length with h | h
        · exact h
        · rw [List.getElem?_eq_none h] at hT; cases hT
      rw [List.getElem?_append_left this]; exact hT
    refine ⟨by simp [ih1], fun k i' hk => ?_⟩
    by_cases e : k = az.length
    · subst e
      rw [List.getElem?_append_right (Nat.le_refl _), Nat.sub_self] at hk
      obtain rfl : i = i' := by simpa using hk
      refine ⟨o, d, S, Δ, h1, h2, by simpa [Nat.blt_eq] using h3, by rw [List.getElem?_append_right (by omega)]; simp [ih1], fun t T hT => ?_, h5, h6⟩
      rcases h4 t T hT with ⟨k, j, oj, b0, b1, b2, b3, b4⟩ | h
      · exact .inl ⟨k, j, oj, up _ _ _ _ b0, b1, b2, b3, up _ _ _ _ b4⟩
      · exact .inr h
    · have hkl : k < az.length := by
        rcases Nat.lt_or_ge k az.length with h | h
        · exact h
        · rw [List.getElem?_eq_none (by simp; omega)] at hk; cases hk
      rw [List.getElem?_append_left hkl] at hk
      obtain ⟨o', d', S', Δ', a1, a2, a3, a4, a5, a6⟩ := ih2 k i' hk
      refine ⟨o', d', S', Δ', a1, a2, a3, up _ _ _ _ a4, fun t T hT => ?_, a6⟩
      rcases a5 t T hT with ⟨k, j, oj, b0, b1, b2, b3, b4⟩ | h
      · exact .inl ⟨k, j, oj, up _ _ _ _ b0, b1, b2, b3, up _ _ _ _ b4⟩
      · exact .inr h
def backB (l : List Oper) : Bool := (List.range l.length).all fun i => match l[i]? with
 | none => true
 | some o => o.after.toList.all fun e => !Region.binds .any e || Nat.blt e.on i
def partB (n : Nat) (bs az ts : List Nat) : Bool := (List.range n).all fun i => bs.contains i || az.contains i || ts.contains i
def jt (l : List Oper) (az : List Nat) : List Nat → Bool
 | [] => true
 | t :: ts => (az.all fun j => (((zo l [])[t]?).getD 0).testBit j) && jt l (az ++ [t]) ts
def disjB (bs az ts : List Nat) : Bool := (ts.all fun t => !bs.contains t && !az.contains t) && (az.all fun t => !bs.contains t)
def xy : List Nat → Bool
 | [] => true
 | t :: ts => !ts.contains t && xy ts
def inB (n : Nat) (ts : List Nat) : Bool := ts.all fun t => Nat.blt t n
def apartL (l : List Oper) (az : List Nat) (Γ : Ctx) : Bool := az.all fun i => match (l[i]?).bind (·.dst) with
  | none => true
  | some d => (Γ.all fun p => !Nat.beq p.1 d) && az.all fun j => Nat.beq i j || match (l[j]?).bind (·.dst) with
    | none => true
    | some e => !Nat.beq d e
theorem aA {l : List Oper} (h : backB l = true) : ∀ (i : Nat) (o : Oper), l[i]? = some o → ∀ e ∈ o.after, Region.binds .any e = true → e.on < i := by
 intro i o ho e he hb
 have hi : i < l.length := by
  rcases Nat.lt_or_ge i l.length with h' | h'
  ·exact h'
  ·rw [List.getElem?_eq_none h'] at ho; cases ho
 have := List.all_eq_true.1 h i (by simpa using hi)
 rw [ho] at this
 have h2 := List.all_eq_true.1 this e (by simpa using he)
 rw [hb] at h2
 simpa [Nat.blt_eq] using h2
theorem phaseT {l : List Oper} (hback : backB l = true) : ∀ (ts : List Nat) (pre : List Nat), jt l pre ts = true → xy ts = true → inB l.length ts = true →
    ∀ (fuel : Nat) (listed : Array Bool) (a : Act) (w : World), ts.length ≤ fuel → listed.size = l.length → (∀ j, j < l.length → j ∉ ts → listed.getD j false = true) → (∀ j, j ∈ ts → listed.getD j false = false) → (∀ t ∈ ts, t ∉ pre) →
    xu l (fun j => listed.getD j false = true) → wpList P l.toArray Q (ts.filterMap fun i => l[i]?) a w → wpAny P .any l.toArray Q fuel listed a w := by
  have hsp := aA hback
  have gd : ∀ (listed : Array Bool) j, j < listed.size → listed.getD j true = listed.getD j false := fun listed j hj => by simp [hj]
  intro ts
  induction ts with
  | nil =>
    intro pre _ _ _ fuel listed a w hf hsz hall _ _ hc hl
    refine wpAny_done ?_ hl fuel
    cases hr : Region.ready .any l.toArray listed with
    | nil => rfl
    | cons j js =>
      have hj : j ∈ Region.ready .any l.toArray listed := by rw [hr]; simp
      rw [mem_ready] at hj
      obtain ⟨g1, o, g2, _⟩ := hj
      have g2' : l[j]? = some o := by simpa using g2
      have hjl : j < l.length := by
        rcases Nat.lt_or_ge j l.length with h' | h'
        · exact h'
        · rw [List.getElem?_eq_none h'] at g2'; cases g2'
      rw [gd listed j (by omega), hall j hjl (by simp)] at g1; cases g1
  | cons t ts ih =>
    intro pre hah hnd hin fuel listed a w hf hsz hall hun hpre hc hl
    simp only [jt, Bool.and_eq_true] at hah
    simp only [xy, Bool.and_eq_true, Bool.not_eq_true'] at hnd
    simp only [inB, List.all_cons, Bool.and_eq_true] at hin
    have htl : t < l.length := by simpa [Nat.blt_eq] using hin.1
    have htn : t ∉ ts := by have := hnd.1; simpa using this
    obtain ⟨f, rfl⟩ : ∃ f, fuel = f + 1 := ⟨fuel - 1, by simp at hf; omega⟩
    have hot : l[t]? = some l[t] := List.getElem?_eq_getElem htl
    -- what the tail's later ones stand behind
    have later : ∀ (ts' : List Nat) (pre' : List Nat), jt l pre' ts' = true → ∀ u ∈ ts', ∀ j ∈ pre', (((zo l [])[u]?).getD 0).testBit j = true := by
      intro ts'
      induction ts' with
      | nil => intro pre' _ u hu; cases hu
      | cons x xs ihx =>
        intro pre' h u hu j hj
        simp only [jt, Bool.and_eq_true] at h
        rcases List.mem_cons.1 hu with rfl | hu
        · exact List.all_eq_true.1 h.1 j hj
        · exact ihx _ h.2 u hu j (List.mem_append_left _ hj)
    have honly : ∀ j, j ∈ Region.ready .any l.toArray listed → j = t := by
      intro j hj
      rw [mem_ready] at hj
      obtain ⟨g1, o, g2, g3⟩ := hj
      have g2' : l[j]? = some o := by simpa using g2
      have hjl : j < l.length := by
        rcases Nat.lt_or_ge j l.length with h' | h'
        · exact h'
        · rw [List.getElem?_eq_none h'] at g2'; cases g2'
      refine Classical.byContradiction fun hne => ?_
      have hjt : j ∈ t :: ts := by
        refine Classical.byContradiction fun hno => ?_
        rw [gd listed j (by omega), hall j hjl hno] at g1; cases g1
      have hjts : j ∈ ts := by rcases List.mem_cons.1 hjt with h | h; exact absurd h hne; exact h
      have hbit := later ts _ hah.2 j hjts t (by simp)
      have hmask : j < (zo l []).length := by rw [qZ]; simpa using hjl
      rw [List.getElem?_eq_getElem hmask] at hbit
      have := vh hc j o g2' g3 t _ (List.getElem?_eq_getElem hmask) (by simpa using hbit)
      have h0 := hun t (by simp)
      have h1 : listed.getD t false = true := this
      rw [h1] at h0; cases h0
    have hready : t ∈ Region.ready .any l.toArray listed := by
      rw [mem_ready]
      refine ⟨by rw [gd listed t (by omega)]; exact hun t (by simp), l[t], by simp [htl], fun e he hb => ?_⟩
      -- an edge of t leads to what is listed
      have hlt := hsp t _ hot e he hb
      refine hall e.on (by omega) fun hmem => ?_
      rcases List.mem_cons.1 hmem with h | h
      · omega
      · -- a later one of the tail would stand behind t, and t behind it
        have hbit := later ts _ hah.2 e.on h t (by simp)
        have hmask : e.on < (zo l []).length := by rw [qZ]; simp; omega
        rw [List.getElem?_eq_getElem hmask] at hbit
        -- zo lead back
        have hm : ∀ (i : Nat) (m : Nat), (zo l [])[i]? = some m → ∀ j, m.testBit j = true → j < i := by
          intro i m hm j hj
          have hil : i < l.length := by
            rcases Nat.lt_or_ge i l.length with h' | h'
            · exact h'
            · rw [List.getElem?_eq_none (by rw [qZ]; simp; omega)] at hm; cases hm
          have := vh (l := l) (L := fun j => j < i) (fun i' o' ho' hi' e' he' hb' => Nat.lt_trans (hsp i' o' ho' e' he' hb') hi') i _ (List.getElem?_eq_getElem hil) (fun e' he' hb' => hsp i _ (List.getElem?_eq_getElem hil) e' he' hb') j m hm hj
          exact this
        have := hm e.on _ (List.getElem?_eq_getElem hmask) t (by simpa using hbit)
        omega
    rw [List.filterMap_cons, hot] at hl
    refine any_one (i := t) honly hready hot hl fun a w hl' => ?_
    refine ih (pre ++ [t]) hah.2 hnd.2 hin.2 f _ a w (by simp at hf; omega) (by simp [hsz]) (fun j hj hjn => ?_) (fun j hj => ?_) (fun u hu hmem => ?_) ?_ hl'
    · by_cases e : j = t
      · subst e; simp [hsz, htl]
      · exact getD_set_true (hall j hj (by simp [e, hjn]))
    · have hne : t ≠ j := fun e => htn (e ▸ hj)
      rw [getD_set_ne false hne]; exact hun j (by simp [hj])
    · rcases List.mem_append.1 hmem with h | h
      · exact hpre u (by simp [hu]) h
      · obtain rfl : u = t := by simpa using h
        exact htn hu
    · intro i o ho hL e he hb
      by_cases ei : i = t
      · subst ei
        rw [mem_ready] at hready
        obtain ⟨_, o', ho', hall'⟩ := hready
        have h1 : l[i]? = some o' := by simpa using ho'
        rw [ho] at h1; obtain rfl := Option.some.inj h1
        exact getD_set_true (hall' e he hb)
      · exact getD_set_true (hc i o ho (by
          have hL' : (listed.setIfInBounds t true).getD i false = true := hL
          rwa [getD_set_ne false (fun h => ei h.symm)] at hL') e he hb)
def DoneL (l : List Oper) (az : List Nat) (Ss : List VP) (L : Nat → Prop) (a : Act) (w : World) (F : Blk) : Prop :=
 ∀ (k j : Nat) (o : Oper) (d : Nat) (S : VP), az[k]? = some j → L j → l[j]? = some o → o.dst = some d → Ss[k]? = some S → S.h w F (a.tmps.getD d undef)
def jA (l : List Oper) : List Nat → List VP → Ctx
  | i :: az, S :: Ss => match (l[i]?).bind (·.dst) with
    | some d => (d, S) :: jA l az Ss
    | none => jA l az Ss
  | _, _ => []
theorem jj {l : List Oper} : ∀ (az : List Nat) (Ss : List VP) (t : Nat) (S : VP), look (jA l az Ss) t = some S → ∃ (k j : Nat) (o : Oper), az[k]? = some j ∧ l[j]? = some o ∧ o.dst = some t ∧ Ss[k]? = some S
  | [], Ss, t, S, h => by simp [jA, look] at h
  | i :: az, [], t, S, h => by simp [jA, look] at h
  | i :: az, S0 :: Ss, t, S, h => by
    simp only [jA] at h
    cases hd : (l[i]?).bind (·.dst) with
    | none => rw [hd] at h; obtain ⟨k, j, o, a, b, c, d⟩ := jj az Ss t S h; exact ⟨k + 1, j, o, by simpa using a, b, c, by simpa using d⟩
    | some dd =>
      rw [hd] at h
      simp only [look] at h
      cases hb : Nat.beq dd t with
      | false => rw [hb] at h; obtain ⟨k, j, o, a, b, c, d⟩ := jj az Ss t S h; exact ⟨k + 1, j, o, by simpa using a, b, c, by simpa using d⟩
      | true =>
        rw [hb] at h; simp at h; subst h
        obtain rfl := Nat.eq_of_beq_eq_true hb
        cases ho : l[i]? with
        | none => rw [ho] at hd; cases hd
        | some o => rw [ho] at hd; exact ⟨0, i, o, rfl, ho, by simpa using hd, rfl⟩
theorem nodup_at : ∀ {az : List Nat}, xy az = true → ∀ {k k' j : Nat}, az[k]? = some j → az[k']? = some j → k = k'
  | [], _, k, k', j, h, _ => by simp at h
  | a :: az, hn, k, k', j, h, h' => by
    simp only [xy, Bool.and_eq_true, Bool.not_eq_true'] at hn
    have hna : a ∉ az := by have := hn.1; simpa using this
    cases k with
    | zero =>
      cases k' with
      | zero => rfl
      | succ k' =>
        exfalso
        have e : a = j := by simpa using h
        exact hna (e ▸ List.mem_of_getElem? (show az[k']? = some j by simpa using h'))
    | succ k =>
      cases k' with
      | zero =>
        exfalso
        have e : a = j := by simpa using h'
        exact hna (e ▸ List.mem_of_getElem? (show az[k]? = some j by simpa using h))
      | succ k' => rw [nodup_at hn.2 (show az[k]? = some j by simpa using h) (show az[k']? = some j by simpa using h')]
def eagerB (l : List Oper) (es az ts : List Nat) : Bool := es.all fun i => az.contains i && freeB l i && match l[i]? with
 | none => true
 | some o => o.after.toList.all fun e => !Region.binds .any e || !ts.contains e.on
theorem phaseL {l : List Oper} {bs es az ts : List Nat} {Ss : List VP} (hD : DrL E P l Γ M es az Ss) (hsel : Region.noSelect l.toArray = true) (heg : eagerB l es az ts = true) (hQ : ∀ c a w d v, Q (.panic c) (Act.put a (some d) v) w → Q (.panic c) a w) (hap : apartL l az Γ = true) (hback : backB l = true) (hpart : partB l.length bs az ts = true) (hdis : disjB bs az ts = true) (hah : jt l (az.filter fun i => !es.contains i) ts = true) (hnd : xy ts = true) (hna : xy az = true) (hin : inB l.length ts = true)
    (k : Ops E P l.toArray Q (ts.filterMap fun i => l[i]?) (jA l az Ss ++ Γ) M) :
    ∀ (fuel : Nat) (listed : Array Bool) (a : Act) (w : World) (F : Blk), listed.toList.countP (· == false) ≤ fuel → listed.size = l.length → (∀ j, j ∈ bs → j < l.length → listed.getD j false = true) → (∀ j, j ∈ ts → listed.getD j false = false) →
    xu l (fun j => listed.getD j false = true) → Sat E Γ M a w F → DoneL l az Ss (fun j => listed.getD j false = true) a w F → wpAny P .any l.toArray Q fuel listed a w := by
  obtain ⟨hlen, hat⟩ := hD.at
  have hsp := aA hback
  have gd : ∀ (listed : Array Bool) j, j < listed.size → listed.getD j true = listed.getD j false := fun listed j hj => by simp [hj]
  have hcase : ∀ i, i < l.length → i ∈ bs ∨ i ∈ az ∨ i ∈ ts := by
    intro i hi
    have := List.all_eq_true.1 hpart i (by simpa using hi)
    simp only [Bool.or_eq_true, List.contains_iff_mem] at this
    rcases this with (h | h) | h
    · exact .inl h
    · exact .inr (.inl h)
    · exact .inr (.inr h)
  simp only [disjB, Bool.and_eq_true, List.all_eq_true, Bool.not_eq_true', Bool.and_eq_true] at hdis
  have hta : ∀ t ∈ ts, t ∉ az := fun t ht => by have := (hdis.1 t ht).2; simpa using this
  have hapart : ∀ i d, i ∈ az → (l[i]?).bind (·.dst) = some d → (∀ t S, look Γ t = some S → t ≠ d) ∧ ∀ j e, j ∈ az → j ≠ i → (l[j]?).bind (·.dst) = some e → e ≠ d := by
    intro i d hi hd
    have h1 := List.all_eq_true.1 hap i hi
    rw [hd] at h1
    simp only [Bool.and_eq_true] at h1
    refine ⟨xz h1.1, fun j e hj hne he => ?_⟩
    have h2 := List.all_eq_true.1 h1.2 j hj
    rw [he] at h2
    simp only [Bool.or_eq_true, Bool.not_eq_true'] at h2
    rcases h2 with h2 | h2
    · exact absurd (Nat.eq_of_beq_eq_true h2).symm hne
    · exact fun e' => Nat.ne_of_beq_eq_false h2 e'.symm
  have later : ∀ (ts' : List Nat) (pre' : List Nat), jt l pre' ts' = true → ∀ u ∈ ts', ∀ j ∈ pre', (((zo l [])[u]?).getD 0).testBit j = true := by
    intro ts'
    induction ts' with
    | nil => intro pre' _ u hu; cases hu
    | cons x xs ihx =>
      intro pre' h u hu j hj
      simp only [jt, Bool.and_eq_true] at h
      rcases List.mem_cons.1 hu with rfl | hu
      · exact List.all_eq_true.1 h.1 j hj
      · exact ihx _ h.2 u hu j (List.mem_append_left _ hj)
  have hfin : ∀ (listed : Array Bool) (a : Act) (w : World) (F : Blk), listed.size = l.length → (∀ j, j ∈ bs → j < l.length → listed.getD j false = true) → (∀ j, j ∈ ts → listed.getD j false = false) → (∀ j, j ∈ az → j < l.length → listed.getD j false = true) →
      xu l (fun j => listed.getD j false = true) → Sat E Γ M a w F → DoneL l az Ss (fun j => listed.getD j false = true) a w F → ∀ fuel, listed.toList.countP (· == false) ≤ fuel → wpAny P .any l.toArray Q fuel listed a w := by
    intro listed a w F hsz hb ht ha hc s hdone fuel hcnt
    refine phaseT hback ts _ hah hnd hin fuel listed a w ?_ hsz (fun j hj hn => ?_) ht (fun t ht hm => hta t ht (List.mem_filter.1 hm).1) hc (k a w F (s.wider ?_))
    · -- the tail's places are all unlisted
      refine Nat.le_trans ?_ hcnt
      have hinj : ∀ (ts' : List Nat), xy ts' = true → inB l.length ts' = true → (∀ j, j ∈ ts' → listed.getD j false = false) → ts'.length ≤ listed.toList.countP (· == false) := by
        intro ts' hnd' hin' hun'
        have e : listed.toList.countP (· == false) = ((List.range l.length).filter fun i => listed.getD i true == false).length := by
          rw [← List.countP_eq_length_filter]
          have : listed.toList = (List.range l.length).map fun i => listed.getD i true := by
            apply List.ext_getElem
            · simp [hsz]
            · intro i h1 h2
              have hi : i < listed.size := by simpa using h1
              simp [hi]
          rw [this, List.countP_map]; rfl
        rw [e]
        have hsub : ts' ⊆ (List.range l.length).filter fun i => listed.getD i true == false := by
          intro j hj
          have hjl : j < l.length := by
            have := List.all_eq_true.1 hin' j hj
            simpa [Nat.blt_eq] using this
          rw [List.mem_filter]
          refine ⟨by simpa using hjl, ?_⟩
          rw [gd listed j (by omega), hun' j hj]; rfl
        have hnodup : ts'.Nodup := by
          clear hun' hsub hin'
          induction ts' with
          | nil => exact List.nodup_nil
          | cons x xs ih =>
            simp only [xy, Bool.and_eq_true, Bool.not_eq_true'] at hnd'
            exact List.nodup_cons.2 ⟨by have := hnd'.1; simpa using this, ih hnd'.2⟩
        exact hnodup.length_le_of_subset hsub
      exact hinj ts hnd hin ht
    · rcases hcase j hj with h | h | h
      · exact hb j h hj
      · exact ha j h hj
      · exact absurd h hn
    · intro t S hlook
      rw [zK] at hlook
      cases hl : look (jA l az Ss) t with
      | none => rw [hl] at hlook; exact s.slots t S (by simpa using hlook)
      | some S' =>
        rw [hl] at hlook
        obtain rfl : S' = S := by simpa using hlook
        obtain ⟨k', j, o, h1, h2, h3, h4⟩ := jj _ _ _ _ hl
        have hjl : j < l.length := by
          rcases Nat.lt_or_ge j l.length with h' | h'
          · exact h'
          · rw [List.getElem?_eq_none h'] at h2; cases h2
        exact hdone k' j o t S' h1 (ha j (List.mem_of_getElem? h1) hjl) h2 h3 h4
  intro fuel
  induction fuel with
  | zero =>
    intro listed a w F hcnt hsz hb ht hc s hdone
    refine hfin listed a w F hsz hb ht (fun j hj hjl => ?_) hc s hdone 0 hcnt
    have h0 : listed.toList.countP (· == false) = 0 := by omega
    rw [List.countP_eq_zero] at h0
    have hlt : j < listed.size := by omega
    have := h0 listed[j] (by simp)
    simp [hlt]
    simpa using this
  | succ fuel ih =>
    intro listed a w F hcnt hsz hb ht hc s hdone
    have hupd : ∀ (i ki : Nat) (o : Oper) (d : Nat) (S : VP), l[i]? = some o → i ∈ az → az[ki]? = some i → o.dst = some d → d < E.n → Ss[ki]? = some S → listed.getD i true = false → (∀ e ∈ o.after, Region.binds .any e = true → listed.getD e.on false = true) →
        ∀ v w' F', Adv w F w' F' → S.h w' F' v → wpAny P .any l.toArray Q fuel (listed.setIfInBounds i true) (a.put (some d) v) w' := by
      intro i ki o d S g2' hias hki a2 a3 a4 g1 g3 v w' F' ad hv
      have hil : i < l.length := by
        rcases Nat.lt_or_ge i l.length with h' | h'
        · exact h'
        · rw [List.getElem?_eq_none h'] at g2'; cases g2'
      have hbind : (l[i]?).bind (·.dst) = some d := by rw [g2']; exact a2
      obtain ⟨ap1, ap2⟩ := hapart i d hias hbind
      have s1 := s.adv ad
      refine ih _ _ w' F' ?_ (by simp [hsz]) (fun j hj hjl => getD_set_true (hb j hj hjl)) (fun j hj => ?_) ?_ (s1.putOut a3 v ap1) ?_
      · have hlt : i < listed.toList.length := by simp; omega
        have hli : listed.toList[i] = false := by
          have : i < listed.size := by omega
          simp [this] at g1; simpa using g1
        rw [Array.toList_setIfInBounds, List.countP_set hlt]
        rw [hli]
        have hpos : 0 < listed.toList.countP (· == false) := List.countP_pos_iff.2 ⟨false, by rw [← hli]; exact List.getElem_mem _, rfl⟩
        simp only [beq_self_eq_true, if_true]
        show _ - 1 + 0 ≤ fuel
        omega
      · have hne : i ≠ j := fun e => hta j hj (e ▸ hias)
        rw [getD_set_ne false hne]; exact ht j hj
      · intro j oj hj hL e he hbb
        by_cases ek : j = i
        · subst ek
          rw [g2'] at hj; obtain rfl := Option.some.inj hj
          exact getD_set_true (g3 e he hbb)
        · exact getD_set_true (hc j oj hj (by
            have hL' : (listed.setIfInBounds i true).getD j false = true := hL
            rwa [getD_set_ne false (fun h => ek h.symm)] at hL') e he hbb)
      · intro k' j oj dj Sj hkj hL hj hdj hSj
        rw [xO (by rw [s1.size]; exact a3)]
        by_cases ek : j = i
        · subst ek
          rw [g2'] at hj; obtain rfl := Option.some.inj hj
          rw [a2] at hdj; obtain rfl := Option.some.inj hdj
          rw [if_pos rfl]
          obtain rfl := nodup_at hna hkj hki
          rw [a4] at hSj; obtain rfl := Option.some.inj hSj
          exact hv
        · have hjas : j ∈ az := List.mem_of_getElem? hkj
          have hne := ap2 j dj hjas ek (by rw [hj]; exact hdj)
          rw [if_neg (fun e => hne e.symm)]
          refine Sj.mono _ _ _ _ _ (hdone k' j oj dj Sj hkj ?_ hj hdj hSj) (ad.same s.flt) ad.sub
          have hL' : (listed.setIfInBounds i true).getD j false = true := hL
          rwa [getD_set_ne false (fun h => ek h.symm)] at hL'
    have hctx : ∀ (i : Nat) (o : Oper) (Δ : Ctx), l[i]? = some o → i < l.length → (∀ e ∈ o.after, Region.binds .any e = true → listed.getD e.on false = true) →
        (∀ t S, look Δ t = some S → (∃ (k j : Nat) (oj : Oper), az[k]? = some j ∧ (((zo l [])[i]?).getD 0).testBit j = true ∧ l[j]? = some oj ∧ oj.dst = some t ∧ Ss[k]? = some S) ∨ look Γ t = some S) → Sat E Δ M a w F := by
      intro i o Δ g2' hil g3 a6
      have hmask : i < (zo l []).length := by rw [qZ]; simpa using hil
      exact s.wider (fun t S' hlk => by
        rcases a6 t S' hlk with ⟨k', j, oj, b00, b0, b1, b2, b3⟩ | h
        · rw [List.getElem?_eq_getElem hmask] at b0
          exact hdone k' j oj t S' b00 (vh hc i o g2' g3 j _ (List.getElem?_eq_getElem hmask) (by simpa using b0)) b1 b2 b3
        · exact s.slots t S' h)
    by_cases heag : ∃ e, e ∈ es ∧ e ∈ Region.ready .any l.toArray listed
    · -- one that reads no memory is ready: it is taken
      obtain ⟨i, hie, hir⟩ := heag
      have hi0 := hir
      rw [mem_ready] at hi0
      obtain ⟨g1, o, g2, g3⟩ := hi0
      have g2' : l[i]? = some o := by simpa using g2
      have hil : i < l.length := by
        rcases Nat.lt_or_ge i l.length with h' | h'
        · exact h'
        · rw [List.getElem?_eq_none h'] at g2'; cases g2'
      have he1 := List.all_eq_true.1 heg i hie
      simp only [Bool.and_eq_true] at he1
      have hias : i ∈ az := List.contains_iff_mem.1 he1.1.1
      obtain ⟨ki, hki⟩ := List.mem_iff_getElem?.1 hias
      obtain ⟨o', d, S, Δ, a1, a2, a3, a4, a6, a7, a8⟩ := hat ki i hki
      rw [g2'] at a1; obtain rfl := Option.some.inj a1
      obtain ⟨hy, hgd⟩ := a8 (List.contains_iff_mem.2 hie)
      obtain ⟨v, hv, hS⟩ := hy a w F (hctx i o Δ g2' hil g3 a6)
      have hfr : ∀ j oj, l.toArray[j]? = some oj → j ≠ i → listed.getD j true = false → (∀ e ∈ oj.after, Region.binds .any e = true → e.on ≠ i) → o.apart l.toArray oj = true := by
        intro j oj hj hne hun hno
        have hj' : l[j]? = some oj := by simpa using hj
        have hjl : j < l.length := by
          rcases Nat.lt_or_ge j l.length with h' | h'
          · exact h'
          · rw [List.getElem?_eq_none h'] at hj'; cases hj'
        have hf := he1.1.2
        unfold freeB at hf
        rw [g2'] at hf
        have h1 := List.all_eq_true.1 hf j (by simpa using hjl)
        rw [hj'] at h1
        simp only [Bool.or_eq_true, beq_iff_eq, hne, false_or] at h1
        rcases h1 with h1 | h1 | h1
        · exfalso
          have hmask : i < (zo l []).length := by rw [qZ]; simpa using hil
          rw [List.getElem?_eq_getElem hmask] at h1
          have := vh hc i o g2' g3 j _ (List.getElem?_eq_getElem hmask) (by simpa using h1)
          rw [gd listed j (by omega)] at hun
          have h3 : listed.getD j false = true := this
          rw [h3] at hun; cases hun
        · obtain ⟨e, he, hb'⟩ := Array.any_eq_true'.1 h1
          simp only [Bool.and_eq_true, beq_iff_eq] at hb'
          exact absurd hb'.2 (hno e he hb'.1)
        · exact h1
      refine wpAny_first g2 (Region.noSelect_spec hsel) (fun c a w h => hQ c a w d v (by rw [a2] at h; exact h)) fuel listed a w hfr hir (.inl ⟨by simp [Region.wanted, hgd], hv⟩) ?_
      rw [a2]
      exact hupd i ki o d S g2' hias hki a2 a3 a4 g1 g3 v w F (Adv.refl _ _) hS
    by_cases hall : ∀ j, j ∈ az → j < l.length → listed.getD j false = true
    · exact hfin listed a w F hsz hb ht hall hc s hdone _ hcnt
    · have hex : ∃ j, j < l.length ∧ listed.getD j true = false := by
        refine Classical.byContradiction fun hno => hall fun j hj hjl => ?_
        rw [← gd listed j (by omega)]
        cases hbb : listed.getD j true with
        | true => rfl
        | false => exact absurd ⟨j, hjl, hbb⟩ hno
      refine ⟨fun hr => ?_, fun i hi => ?_⟩
      · obtain ⟨j, ⟨hj1, hj2⟩, hmin⟩ := exists_least hex
        have : j ∈ Region.ready .any l.toArray listed := by
          rw [mem_ready]
          refine ⟨hj2, l[j], by simp [hj1], fun e he hbb => ?_⟩
          have hlt := hsp j _ (List.getElem?_eq_getElem hj1) e he hbb
          cases hb2 : listed.getD e.on true with
          | true => rw [gd listed e.on (by omega)] at hb2; exact hb2
          | false => have := hmin e.on ⟨by omega, hb2⟩; omega
        rw [hr] at this; simp at this
      · have hi' := hi
        rw [mem_ready] at hi
        obtain ⟨g1, o, g2, g3⟩ := hi
        have g2' : l[i]? = some o := by simpa using g2
        have hil : i < l.length := by
          rcases Nat.lt_or_ge i l.length with h' | h'
          · exact h'
          · rw [List.getElem?_eq_none h'] at g2'; cases g2'
        have hmask : i < (zo l []).length := by rw [qZ]; simpa using hil
        have hias : i ∈ az := by
          rcases hcase i hil with h | h | h
          · rw [gd listed i (by omega), hb i h hil] at g1; cases g1
          · exact h
          · exfalso
            have hna' : ∀ j, j ∈ az → j < l.length → es.contains j = false → listed.getD j false = true := by
              intro j hj hjl hje
              have hbit := later ts _ hah i h j (List.mem_filter.2 ⟨hj, by rw [hje]; rfl⟩)
              rw [List.getElem?_eq_getElem hmask] at hbit
              exact vh hc i o g2' g3 j _ (List.getElem?_eq_getElem hmask) (by simpa using hbit)
            refine hall fun j hj hjl => ?_
            refine Classical.byContradiction fun hno => ?_
            -- the least of the eager ones that are not listed is ready
            have hex2 : ∃ q, (q ∈ az ∧ q < l.length) ∧ listed.getD q false = false := ⟨j, ⟨hj, hjl⟩, by cases hbb : listed.getD j false with | true => exact absurd hbb hno | false => rfl⟩
            obtain ⟨q, ⟨⟨hq1, hq2⟩, hq3⟩, hqmin⟩ := exists_least hex2
            have hqe : es.contains q = true := by
              cases hbb : es.contains q with
              | true => rfl
              | false => rw [hna' q hq1 hq2 hbb] at hq3; cases hq3
            have hqe' := List.contains_iff_mem.1 hqe
            refine heag ⟨q, hqe', ?_⟩
            rw [mem_ready]
            refine ⟨by rw [gd listed q (by omega)]; exact hq3, l[q], by simp [hq2], fun e he hbb => ?_⟩
            have hlt := hsp q _ (List.getElem?_eq_getElem hq2) e he hbb
            have he1 := List.all_eq_true.1 heg q hqe'
            simp only [Bool.and_eq_true] at he1
            have he2 := he1.2
            rw [List.getElem?_eq_getElem hq2] at he2
            have he3 := List.all_eq_true.1 he2 e (by simpa using he)
            rw [hbb] at he3
            simp only [Bool.not_true, Bool.false_or, Bool.not_eq_true'] at he3
            rcases hcase e.on (by omega) with h' | h' | h'
            · exact hb e.on h' (by omega)
            · cases hb2 : listed.getD e.on false with
              | true => rfl
              | false => have := hqmin e.on ⟨⟨h', by omega⟩, hb2⟩; omega
            · rw [List.contains_iff_mem.2 h'] at he3; cases he3
        obtain ⟨ki, hki⟩ := List.mem_iff_getElem?.1 hias
        obtain ⟨o', d, S, Δ, a1, a2, a3, a4, a6, a7, _⟩ := hat ki i hki
        rw [g2'] at a1; obtain rfl := Option.some.inj a1
        have hstep := a7 a w F (hctx i o Δ g2' hil g3 a6) (wpAny P .any l.toArray Q fuel (listed.setIfInBounds i true)) Q
        have hgo : ∀ v w' F', Adv w F w' F' → S.h w' F' v → wpAny P .any l.toArray Q fuel (listed.setIfInBounds i true) (a.put o.dst v) w' := by
          intro v w' F' ad hv
          rw [a2]
          exact hupd i ki o d S g2' hias hki a2 a3 a4 g1 g3 v w' F' ad hv
        have hres := hstep hgo
        unfold wpOp
        have ho : l.toArray[i]? = some o := by simpa using g2'
        rw [ho]
        exact hres
def DrC (E : Env) (P : Program) (l : List Oper) (Γ : Ctx) (M : Mem) (Q : Exit → Act → World → Prop) (es bs az : List Nat) (Θ : Ctx) : Prop :=
 ∀ Ss, DrL E P l Γ M es az Ss → (∀ t S, look Θ t = some S → ∃ (k j : Nat) (o : Oper), az[k]? = some j ∧ l[j]? = some o ∧ o.dst = some t ∧ Ss[k]? = some S) → DrB E P l Γ M Q bs
theorem DrB.go {l : List Oper} {bs : List Nat} (es : List Nat) (h : DrC E P l Γ M Q es bs [] []) : DrB E P l Γ M Q bs := h [] .nil (fun t S ht => by simp [look] at ht)
def br (l : List Oper) (i : Nat) (az ts : List Nat) : Bool :=
 let m := ((zo l [])[i]?).getD 0
 az.all fun j => m.testBit j || match (l[j]?).bind (·.dst) with
  | none => true
  | some d => ts.all fun t => !Nat.beq d t
theorem OKY.g {o : Oper} {S : VP} (hg : o.guard = none) (h : OKY E P Γ M o S) : OKG E P ops Γ M o S := OKG.o hg (.run fun a w F s => by
 obtain ⟨v, hv, hS⟩ := h a w F s
 exact ⟨v, hv w, hS⟩)
theorem DrC.stE {i d : Nat} {l : List Oper} {es bs az : List Nat} {Θ : Ctx} {S : VP} {o : Oper} (ts : List Nat) (h1 : l[i]? = some o) (h2 : o.dst = some d) (h3 : Nat.blt d E.n = true)
    (h4 : br l i az ts = true) (h5 : OKG E P l.toArray (qC ts Θ ++ Γ) M o S) (h6 : es.contains i = true → OKY E P (qC ts Θ ++ Γ) M o S ∧ o.guard = none) (k : DrC E P l Γ M Q es bs (az ++ [i]) ((d, S) :: Θ)) : DrC E P l Γ M Q es bs az Θ := by
  intro Ss hD hΘ
  obtain ⟨hlen, _⟩ := hD.at
  have up : ∀ {β : Type} (xs : List β) (x : β) (j : Nat) (T : β), xs[j]? = some T → (xs ++ [x])[j]? = some T := fun xs x j T hT => by
    have : j < xs.length := by
      rcases Nat.lt_or_ge j xs.length with h | h
      · exact h
      · rw [List.getElem?_eq_none h] at hT; cases hT
    rw [List.getElem?_append_left this]; exact hT
  refine k (Ss ++ [S]) (.snoc _ hD h1 h2 h3 (fun t S' ht => ?_) h5 h6) (fun t S' ht => ?_)
  · rw [zK] at ht
    cases hl : look (qC ts Θ) t with
    | none => rw [hl] at ht; exact .inr (by simpa using ht)
    | some S'' =>
      rw [hl] at ht
      obtain rfl : S'' = S' := by simpa using ht
      obtain ⟨hm, hl2⟩ := qp _ _ _ hl
      obtain ⟨k', j, oj, b0, b1, b2, b3⟩ := hΘ t S'' hl2
      refine .inl ⟨k', j, oj, b0, ?_, b1, b2, b3⟩
      have := List.all_eq_true.1 h4 j (List.mem_of_getElem? b0)
      rw [b1] at this
      simp only [Option.bind_some, b2, Bool.or_eq_true] at this
      rcases this with h | h
      · exact h
      · have := List.all_eq_true.1 h t hm
        simp [Nat.beq_refl] at this
  · simp only [look] at ht
    cases hb : Nat.beq d t with
    | true =>
      rw [hb] at ht; simp at ht; subst ht
      obtain rfl := Nat.eq_of_beq_eq_true hb
      exact ⟨az.length, i, o, by simp, h1, h2, by rw [List.getElem?_append_right (by omega)]; simp [hlen]⟩
    | false =>
      rw [hb] at ht
      obtain ⟨k', j, oj, b0, b1, b2, b3⟩ := hΘ t S' ht
      exact ⟨k', j, oj, up _ _ _ _ b0, b1, b2, up _ _ _ _ b3⟩
theorem DrC.st {i d : Nat} {l : List Oper} {es bs az : List Nat} {Θ : Ctx} {S : VP} {o : Oper} (ts : List Nat) (h1 : l[i]? = some o) (h2 : o.dst = some d) (h3 : Nat.blt d E.n = true)
  (h4 : br l i az ts = true) (h0 : es.contains i = false) (h5 : OKG E P l.toArray (qC ts Θ ++ Γ) M o S) (k : DrC E P l Γ M Q es bs (az ++ [i]) ((d, S) :: Θ)) : DrC E P l Γ M Q es bs az Θ :=
 DrC.stE ts h1 h2 h3 h4 h5 (fun h => by rw [h0] at h; cases h) k
theorem DrC.s {d : Nat} {l : List Oper} {es bs az : List Nat} {Θ : Ctx} {S : VP} {o : Oper} (i : Nat) (ts : List Nat) (h1 : l[i]? = some o) (h2 : o.dst = some d) (h3 : Nat.blt d E.n = true) (h5 : OKG E P l.toArray (qC ts Θ ++ Γ) M o S) (k : DrC E P l Γ M Q es bs (az ++ [i]) ((d, S) :: Θ)) (h4 : br l i az ts = true := by kernel_rfl) (h0 : es.contains i = false := by kernel_rfl) : DrC E P l Γ M Q es bs az Θ :=
 DrC.st ts h1 h2 h3 h4 h0 h5 k
theorem DrC.ea {i d : Nat} {l : List Oper} {es bs az : List Nat} {Θ : Ctx} {S : VP} {o : Oper} (ts : List Nat) (h1 : l[i]? = some o) (h2 : o.dst = some d) (h3 : Nat.blt d E.n = true)
  (h4 : br l i az ts = true) (hg : o.guard = none) (h5 : OKY E P (qC ts Θ ++ Γ) M o S) (k : DrC E P l Γ M Q es bs (az ++ [i]) ((d, S) :: Θ)) : DrC E P l Γ M Q es bs az Θ :=
 DrC.stE ts h1 h2 h3 h4 (OKY.g hg h5) (fun _ => ⟨h5, hg⟩) k
def takenB (l : List Oper) (bs : List Nat) : Bool := (bs.all fun i => match l[i]? with
    | none => true
    | some o => o.after.toList.all fun e => !Region.binds .any e || bs.contains e.on) &&
  ((List.range l.length).all fun i => (xj l.length bs).getD i false == bs.contains i) && Nat.ble ((xj l.length bs).toList.countP (· == false)) (l.length - bs.length)
theorem DrC.fin {l : List Oper} {es bs az : List Nat} {Θ : Ctx} (ts : List Nat) (hsel : Region.noSelect l.toArray = true) (heg : eagerB l es az ts = true) (hQ : ∀ c a w d v, Q (.panic c) (Act.put a (some d) v) w → Q (.panic c) a w) (htk : takenB l bs = true) (hap : apartL l az Γ = true) (hback : backB l = true) (hpart : partB l.length bs az ts = true) (hdis : disjB bs az ts = true) (hah : jt l (az.filter fun i => !es.contains i) ts = true) (hnd : xy ts = true) (hna : xy az = true) (hin : inB l.length ts = true)
    (k : Ops E P l.toArray Q (ts.filterMap fun i => l[i]?) (Θ ++ Γ) M) : DrC E P l Γ M Q es bs az Θ := by
  intro Ss hD hΘ a w F s
  simp only [takenB, Bool.and_eq_true] at htk
  obtain ⟨⟨t1, t2⟩, t3⟩ := htk
  have hlist : ∀ i, i < l.length → ((xj l.length bs).getD i false = true ↔ i ∈ bs) := fun i hi => by
    have := List.all_eq_true.1 t2 i (by simpa using hi)
    have h2 : (xj l.length bs).getD i false = bs.contains i := by simpa using this
    rw [h2, List.contains_iff_mem]
  have hsz := arrOf_size l.length bs
  have hout : ∀ i, l.length ≤ i → (xj l.length bs).getD i false = false := fun i hi => by
    have : ¬ i < (xj l.length bs).size := by omega
    simp [this]
  have hsame : ∀ t S, look (Θ ++ Γ) t = some S → look (jA l az Ss ++ Γ) t = some S := by
    intro t S ht
    rw [zK] at ht
    rw [zK]
    have hdl : ∀ i d, i ∈ az → (l[i]?).bind (·.dst) = some d → (∀ t S, look Γ t = some S → t ≠ d) ∧ ∀ j e, j ∈ az → j ≠ i → (l[j]?).bind (·.dst) = some e → e ≠ d := by
      intro i d hi hd
      have h1 := List.all_eq_true.1 hap i hi
      rw [hd] at h1
      simp only [Bool.and_eq_true] at h1
      refine ⟨xz h1.1, fun j e hj hne he => ?_⟩
      have h2 := List.all_eq_true.1 h1.2 j hj
      rw [he] at h2
      simp only [Bool.or_eq_true, Bool.not_eq_true'] at h2
      rcases h2 with h2 | h2
      · exact absurd (Nat.eq_of_beq_eq_true h2).symm hne
      · exact fun e' => Nat.ne_of_beq_eq_false h2 e'.symm
    cases hl : look Θ t with
    | none =>
      rw [hl] at ht
      have ht' : look Γ t = some S := by simpa using ht
      have hno : look (jA l az Ss) t = none := by
        cases hd : look (jA l az Ss) t with
        | none => rfl
        | some S' =>
          obtain ⟨k', j, o, b0, b1, b2, b3⟩ := jj _ _ _ _ hd
          exact absurd rfl ((hdl j t (List.mem_of_getElem? b0) (by rw [b1]; exact b2)).1 t S ht')
      rw [hno]; simpa using ht'
    | some S' =>
      rw [hl] at ht
      obtain rfl : S' = S := by simpa using ht
      obtain ⟨k', j, o, b0, b1, b2, b3⟩ := hΘ t S' hl
      have hex : ∀ (as' : List Nat) (Ss' : List VP) (k : Nat), as'[k]? = some j → Ss'[k]? = some S' → xy as' = true → (∀ j', j' ∈ as' → j' ≠ j → (l[j']?).bind (·.dst) ≠ some t) → look (jA l as' Ss') t = some S' := by
        intro as'
        induction as' with
        | nil => intro Ss' k h; simp at h
        | cons x as' ih =>
          intro Ss' k h1 h2 hn h3
          simp only [xy, Bool.and_eq_true, Bool.not_eq_true'] at hn
          have hxn : x ∉ as' := by have := hn.1; simpa using this
          cases Ss' with
          | nil => simp at h2
          | cons T Ss' =>
            cases k with
            | zero =>
              have e1 : x = j := by simpa using h1
              have e2 : T = S' := by simpa using h2
              subst e1; subst e2
              simp only [jA, b1, Option.bind_some, b2, look, Nat.beq_refl]
            | succ k =>
              have hjm : j ∈ as' := List.mem_of_getElem? (show as'[k]? = some j by simpa using h1)
              have hxj : x ≠ j := fun e => hxn (e ▸ hjm)
              have hrec := ih Ss' k (by simpa using h1) (by simpa using h2) hn.2 (fun j' hj' hne => h3 j' (by simp [hj']) hne)
              have h0 := h3 x (by simp) hxj
              simp only [jA]
              cases hd : (l[x]?).bind (·.dst) with
              | none => exact hrec
              | some d' =>
                simp only [look]
                have hne : Nat.beq d' t = false := by
                  cases hb : Nat.beq d' t with
                  | false => rfl
                  | true => exact absurd (by rw [hd, Nat.eq_of_beq_eq_true hb]) h0
                rw [hne]; exact hrec
      have hlk := hex az Ss k' b0 b3 hna (fun j' hj' hne he' => (hdl j t (List.mem_of_getElem? b0) (by rw [b1]; exact b2)).2 j' t hj' hne he' rfl)
      rw [hlk]; rfl
  refine phaseL (bs := bs) hD hsel heg hQ hap hback hpart hdis hah hnd hna hin (fun a w F s => k a w F (s.wider fun t S ht => s.slots t S (hsame t S ht))) _ _ a w F (Nat.le_of_ble_eq_true t3) hsz (fun j hj hjl => (hlist j hjl).2 hj) (fun j hj => ?_) ?_ s ?_
  · rcases Nat.lt_or_ge j l.length with h | h
    · cases hb : (xj l.length bs).getD j false with
      | false => rfl
      | true =>
        exfalso
        simp only [disjB, Bool.and_eq_true, List.all_eq_true, Bool.not_eq_true'] at hdis
        have := (hdis.1 j hj).1
        have hm := (hlist j h).1 hb
        rw [← List.contains_iff_mem, this] at hm; cases hm
    · exact hout j h
  · intro i o ho hL e he hb
    have hil : i < l.length := by
      rcases Nat.lt_or_ge i l.length with h' | h'
      · exact h'
      · rw [List.getElem?_eq_none h'] at ho; cases ho
    have hib := (hlist i hil).1 hL
    have := List.all_eq_true.1 t1 i hib
    rw [ho] at this
    have h2 := List.all_eq_true.1 this e (by simpa using he)
    rw [hb] at h2
    simp only [Bool.not_true, Bool.false_or] at h2
    have hlt := aA hback i o ho e he hb
    exact (hlist e.on (by omega)).2 (List.contains_iff_mem.1 h2)
  · intro k' j o d S hkj hL hj hd hS
    have hjl : j < l.length := by
      rcases Nat.lt_or_ge j l.length with h' | h'
      · exact h'
      · rw [List.getElem?_eq_none h'] at hj; cases hj
    have hjb := (hlist j hjl).1 hL
    exfalso
    simp only [disjB, Bool.and_eq_true, List.all_eq_true, Bool.not_eq_true'] at hdis
    have := hdis.2 j (List.mem_of_getElem? hkj)
    rw [← List.contains_iff_mem, this] at hjb; cases hjb
end
end Go.En
namespace Go.En
open Go.RowKit
def CellsIn (w w' : World) : Prop := ∀ a c, w.cell? a = some c → w'.cell? a = some c
theorem CellsIn.refl (w : World) : CellsIn w w := fun _ _ h => h
theorem CellsIn.trans {a b c : World} (h : CellsIn a b) (k : CellsIn b c) : CellsIn a c := fun x v hx => k x v (h x v hx)
theorem CellsIn.of_heap {w w' : World} (h : ∀ (k : Nat) (o : Obj), w.heap[k]? = some o → w'.heap[k]? = some o) : CellsIn w w' := fun a c hc => by
 unfold World.cell? at hc ⊢
 cases ho : w.heap[a.block]? with
 | none => rw [ho] at hc; cases hc
 | some o => rw [ho] at hc; rw [h _ _ ho]; exact hc
inductive Calm {α : Type} : Sem α → Prop
 | pure (a : α) : Calm (.pure a)
 | load (m : Mode) (a : Addr) (k : Value → Sem α) (h : ∀ v, Calm (k v)) : Calm (.load m a k)
 | new (o : Obj) (k : Nat → Sem α) (h : ∀ n, Calm (k n)) : Calm (.new o k)
 | choose (q : Question) (k : Nat → Sem α) (h : ∀ n, Calm (k n)) : Calm (.choose q k)
 | program (k : Program → Sem α) (h : ∀ p, Calm (k p)) : Calm (.program k)
 | mark (m : Mark) (k : Sem α) (h : Calm k) : Calm (.mark m k)
 | halt (x : Halt) : Calm (.halt x)
theorem Calm.run {α : Type} {P : Program} {s : Sem α} (h : Calm s) : ∀ (w : World) (a : α) (w' : World), s.run P w = .ok a w' → CellsIn w w' := by
  induction h with
  | pure a => intro w a' w' e; cases e; exact CellsIn.refl _
  | load m a k _ ih =>
    intro w a' w' e
    unfold Sem.run at e
    split at e
    · exact ih _ w a' w' e
    · split at e
      · exact ih _ w a' w' e
      · cases e
  | new o k _ ih =>
    intro w a' w' e
    refine CellsIn.trans (CellsIn.of_heap fun k' o' ho => ?_) (ih _ _ a' w' e)
    have hk : k' < w.heap.size := by
      rcases Nat.lt_or_ge k' w.heap.size with h | h
      · exact h
      · rw [Array.getElem?_eq_none h] at ho; cases ho
    show (w.heap.push o)[k']? = some o'
    rw [Array.getElem?_push_lt hk, ← ho, Array.getElem?_eq_getElem hk]
  | choose q k _ ih =>
    intro w a' w' e
    unfold Sem.run at e
    split at e <;> first | exact ih _ w a' w' e | exact CellsIn.trans (b := { w with drawn := w.drawn + 1 }) (CellsIn.of_heap fun _ _ h => h) (ih _ _ a' w' e)
  | program k _ ih => intro w a' w' e; exact ih _ w a' w' e
  | mark m k _ ih => intro w a' w' e; exact ih w a' w' e
  | halt x => intro w a' w' e; cases e
theorem Calm.bind {α β : Type} {s : Sem α} {f : α → Sem β} (h : Calm s) (k : ∀ a, Calm (f a)) : Calm (s >>= f) := by
 show Calm (Sem.bind s f)
 induction h with
 | pure a => exact k a
 | load m a k' _ ih => exact .load m a _ ih
 | new o k' _ ih => exact .new o _ ih
 | choose q k' _ ih => exact .choose q _ ih
 | program k' _ ih => exact .program _ ih
 | mark m k' _ ih => exact .mark m _ ih
 | halt x => exact .halt x
theorem qK {α : Type} (a : α) : Calm (Pure.pure a : Sem α) := .pure a
theorem xY {α : Type} (m : String) : Calm (stuck m : Sem α) := .halt _
theorem xJ {α : Type} (u : Unsupported) : Calm (unsupported u : Sem α) := .halt _
theorem calm_program : Calm Go.program := .program _ fun p => .pure p
theorem jG (t : TypeId) : Calm (typeInfo t) := by unfold typeInfo; exact calm_program.bind fun p => by split; exact qK _; exact xY _
theorem xT (t : TypeId) : Calm (underlying t) := by unfold underlying; exact calm_program.bind fun p => by split; exact qK _; exact xY _
theorem jB (t : TypeId) : Calm (sizeOf t) := by unfold sizeOf; exact (jG t).bind fun p => qK _
theorem vn (t : TypeId) : Calm (zeroValue t) := by unfold zeroValue; exact (jG t).bind fun p => by split; exact qK _; exact xJ _
theorem calm_isAgg (t : TypeId) : Calm (isAgg t) := by unfold isAgg; exact (xT t).bind fun p => by split <;> exact qK _
theorem dc (v : Value) : Calm (Instr.sureAddr v) := by unfold Instr.sureAddr; split; exact qK _; exact xY _
theorem eU (a : Addr) : Calm (Go.load a) := .load _ _ _ fun v => .pure v
theorem vo (a : Addr) : ∀ (n i : Nat) (acc : Array Value), Calm (loadCellsFrom a i n acc)
 | 0, _, _ => qK _
 | n + 1, i, acc => (eU _).bind fun v => vo a n (i + 1) (acc.push v)
theorem calm_loadVar (t : TypeId) (a : Addr) : Calm (loadVar t a) := by
 unfold loadVar
 refine (calm_isAgg t).bind fun b => ?_
 split
 ·exact (jB t).bind fun n => (vo a n 0 #[]).bind fun _ => qK _
 ·exact eU a
theorem calm_loadAt (t : TypeId) (v : Value) : Calm (Instr.loadAt t v) := by unfold Instr.loadAt; exact (dc v).bind fun a => calm_loadVar t a
theorem wL (e : TypeId) (cs : Array Value) : Calm (newRow e cs) := by unfold newRow; exact Calm.bind (.new _ _ fun n => .pure n) fun _ => qK _
theorem aU {α : Type} (v : Value) : Calm (goPanic v : Sem α) := .halt _
theorem aT {α : Type} (e : RuntimeError) : Calm (runtimePanic e : Sem α) := by
 unfold runtimePanic
 refine calm_program.bind fun p => ?_
 cases e <;> (first | exact aU _ | (repeat' (first | exact aU _ | exact qK _ | exact xY _ | exact xJ _ | exact calm_program | exact xT _ | exact vn _ | exact jB _ | exact wL _ _ | exact (Calm.halt _) | split | refine Calm.bind ?_ fun _ => ?_)))
theorem calm_choose (q : Question) : Calm (Go.choose q) := .choose _ _ fun n => .pure n
theorem calm_askRoom (n : Nat) : Calm (askRoom n) := by unfold askRoom; split; exact .mark _ _ (.pure _); exact qK _
theorem calm_asIntOf (v : Value) : Calm (asIntOf v) := by unfold asIntOf; split <;> first | exact qK _ | exact xY _ | exact xJ _
theorem calm_asInt (v : Value) : Calm (asInt v) := by unfold asInt; exact (calm_asIntOf v).bind fun _ => qK _
theorem dI (t : TypeId) (l c : Value) : Calm (Instr.makeSlice t l c) := by
 unfold Instr.makeSlice
 repeat' (first | exact qK _ | exact xY _ | exact xT _ | exact calm_asInt _ | exact jG _ | exact aT _ | exact calm_choose _ | exact calm_askRoom _ | exact jB _ | exact vn _ | exact wL _ _ | dsimp only | split | refine Calm.bind ?_ fun _ => ?_)
theorem bK (t : TypeId) (n : Nat) (ps : Array (Nat × Value)) : Calm (Instr.buildSlice t n ps) := by
 unfold Instr.buildSlice
 repeat' (first | exact qK _ | exact xY _ | exact xJ _ | exact xT _ | exact jB _ | exact vn _ | exact wL _ _ | dsimp only | split | refine Calm.bind ?_ fun _ => ?_)
def dJ (o : Oper) : Bool := match o.op with
 | .load .. => true
 | .makeSlice .. => true
 | .buildSlice .. => true
 | .move .. => true
 | _ => false
theorem calm_run {o : Oper} (h : dJ o = true) {ρ : Operand → Value} {P : Program} {w w' : World} {n : Next} (hr : (execOp ρ o).run P w = .ok n w') : (∃ u, n = .value u) ∧ CellsIn w w' := by
 have key : ∀ {s : Sem Value}, Calm s → (do pure (Next.value (← s)) : Sem Next).run P w = .ok n w' → (∃ u, n = .value u) ∧ CellsIn w w' := fun {s} hs e => by
  refine ⟨?_, (hs.bind fun _ => qK _).run _ _ _ e⟩
  rw [Sem.run_bind] at e
  cases hv : s.run P w with
  | ok v w1 => rw [hv] at e; exact ⟨v, by simp at e; exact e.1.symm⟩
  | halt x w1 => rw [hv] at e; simp at e
 obtain ⟨d, op, ty, pos, af, gd⟩ := o
 cases op <;> simp only [dJ] at h <;> first | cases h | skip
 ·simp only [execOp] at hr
  cases hr
  exact ⟨⟨_, rfl⟩, CellsIn.refl _⟩
 all_goals (simp only [execOp] at hr)
 ·exact key (bK _ _ _) hr
 ·exact key (calm_loadAt _ _) hr
 ·exact key (dI _ _ _) hr
section
variable {P : Program} {ops : Array Oper} {md : Region.Mode} {Q : Exit → Act → World → Prop}
def wN (P : Program) (w0 : World) (o : Oper) (v : Value) (a : Act) : Prop := ∀ w, CellsIn w0 w → (execOp a.eval o).run P w = .ok (.value v) w
theorem wpOp_putC {j : Nat} {oi oj : Oper} {v : Value} {w0 : World} (hj : ops[j]? = some oj) (hap : oi.apart ops oj = true) (hc : dJ oj = true)
    (hsi : ∀ cs b, oi.op ≠ .select cs b) (hsj : ∀ cs b, oj.op ≠ .select cs b)
    (hQ : ∀ c a w, Q (.panic c) (a.put oi.dst v) w → Q (.panic c) a w) {K : Act → World → Prop} {a : Act} {w : World}
    (hw0 : CellsIn w0 w) (hy : wN P w0 oi v a) (h : wpOp P ops Q j K (a.put oi.dst v) w) :
    wpOp P ops Q j (fun a' w' => (CellsIn w0 w' ∧ wN P w0 oi v a') ∧ K (a'.put oi.dst v) w') a w := by
  obtain ⟨h1, h2, h3⟩ := Oper.apart_spec hap
  have keep : ∀ u, wN P w0 oi v (a.put oj.dst u) := fun u w' hw' => by rw [execOp_put oi hsi a oj.dst u h3]; exact hy w' hw'
  unfold wpOp at *
  simp only [hj] at *
  rw [wanted_put oj a oi.dst v h1] at h
  split
  · rename_i hw
    simp only [hw, if_true] at h
    rcases h with h | ⟨hasks, hlets⟩
    case inr => exact .inr ⟨by unfold Oper.asks at *; rw [execOp_put oj hsj a oi.dst v h1] at hasks; exact hasks, hlets⟩
    refine .inl ?_
    unfold Oper.wp at *
    rw [execOp_put oj hsj a oi.dst v h1] at h
    cases hr : (execOp a.eval oj).run P w with
    | ok n w' =>
      obtain ⟨⟨u, rfl⟩, hci⟩ := calm_run hc hr
      rw [hr] at h
      simp only [Oper.upon] at h ⊢
      exact ⟨⟨hw0.trans hci, keep u⟩, by rw [← Act.put_comm a v u h2]; exact h⟩
    | halt x w' =>
      rw [hr] at h
      cases x <;> simp only [Oper.upon] at h ⊢
      case panic u => exact hQ _ _ _ h
  · rename_i hw
    simp only [hw] at h
    exact ⟨⟨hw0, keep _⟩, by rw [← Act.put_comm a v undef h2]; exact h⟩
theorem ed {i : Nat} {oi : Oper} {v : Value} {w0 : World} (hi : ops[i]? = some oi) (hg : oi.guard = none) (hsel : ∀ (j : Nat) (o : Oper) cs b, ops[j]? = some o → o.op ≠ .select cs b)
    (hQ : ∀ c a w, Q (.panic c) (a.put oi.dst v) w → Q (.panic c) a w) :
    ∀ (fuel : Nat) (listed : Array Bool) (a : Act) (w : World), CellsIn w0 w →
      (∀ j oj, ops[j]? = some oj → j ≠ i → listed.getD j true = false → (∀ e ∈ oj.after, Region.binds md e = true → e.on ≠ i) → oi.apart ops oj = true ∧ dJ oj = true) →
      i ∈ Region.ready md ops listed → wN P w0 oi v a →
      wpAny P md ops Q fuel (listed.setIfInBounds i true) (a.put oi.dst v) w → wpAny P md ops Q (fuel + 1) listed a w := by
  have self : ∀ {K : Act → World → Prop} {a : Act} {w : World}, CellsIn w0 w → wN P w0 oi v a → K (a.put oi.dst v) w → wpOp P ops Q i K a w := fun {K a w} hw hy hK => by
    unfold wpOp
    simp only [hi]
    rw [if_pos (by simp [Region.wanted, hg])]
    refine .inl ?_
    unfold Oper.wp
    rw [hy w hw]
    exact hK
  intro fuel
  induction fuel with
  | zero =>
    intro listed a w hw _ hr hy H
    refine ⟨fun h => (by rw [h] at hr; cases hr), fun j hj => ?_⟩
    by_cases hji : j = i
    · subst hji; exact self hw hy H
    · have := ready_mono hj hji
      rw [H.1] at this
      cases this
  | succ fuel ih =>
    intro listed a w hw hfree hr hy H
    refine ⟨fun h => (by rw [h] at hr; cases hr), fun j hj => ?_⟩
    by_cases hji : j = i
    · subst hji; exact self hw hy H
    · have h1 := H.2 j (ready_mono hj hji)
      obtain ⟨hjun, oj, hoj, hall⟩ := mem_ready.1 hj
      have hnot : ∀ e ∈ oj.after, Region.binds md e = true → e.on ≠ i := fun e he hb heq => by
        have h1 := hall e he hb
        have h0 := (mem_ready.1 hr).1
        rw [heq] at h1
        rcases Nat.lt_or_ge i listed.size with h' | h'
        · simp [h'] at h0 h1; rw [h0] at h1; cases h1
        · simp [Array.getElem?_eq_none h'] at h1
      obtain ⟨f1, f2⟩ := hfree j oj hoj hji hjun hnot
      have h2 := wpOp_putC hoj f1 f2 (fun cs b => hsel i oi cs b hi) (fun cs b => hsel j oj cs b hoj) hQ hw hy h1
      have hfree' : ∀ k ok, ops[k]? = some ok → k ≠ i → (listed.setIfInBounds j true).getD k true = false →
          (∀ e ∈ ok.after, Region.binds md e = true → e.on ≠ i) → oi.apart ops ok = true ∧ dJ ok = true := fun k ok hk hki hun hno => by
        refine hfree k ok hk hki ?_ hno
        by_cases hjk : j = k
        · subst hjk; exact hjun
        · rw [getD_set_ne true hjk] at hun; exact hun
      refine wpOp_mono (fun a' w' h3 => ih (listed.setIfInBounds j true) a' w' h3.1.1 hfree' (ready_mono hr (Ne.symm hji)) h3.1.2 ?_) h2
      rw [Array.setIfInBounds_comm _ _ hji]
      exact h3.2
end
def freeC (l : List Oper) (listed : Array Bool) (i : Nat) : Bool := match l[i]? with
 | none => false
 | some oi => (List.range l.length).all fun j => j == i || listed.getD j true || match l[j]? with
   | some oj => oj.after.any (fun e => Region.binds .any e && e.on == i) || (oi.apart l.toArray oj && dJ oj)
   | none => true
theorem freeC_spec {l : List Oper} {i : Nat} {oi : Oper} {listed : Array Bool} (hi : l[i]? = some oi) (h : freeC l listed i = true) (j : Nat) (oj : Oper)
  (hj : l[j]? = some oj) (hne : j ≠ i) (hun : listed.getD j true = false) (hno : ∀ e ∈ oj.after, Region.binds .any e = true → e.on ≠ i) : oi.apart l.toArray oj = true ∧ dJ oj = true := by
 simp only [freeC, hi, List.all_eq_true, List.mem_range] at h
 have h1 := h j (List.getElem?_eq_some_iff.1 hj).1
 simp only [hj, Bool.or_eq_true, beq_iff_eq, hne, false_or, hun, Bool.false_eq_true] at h1
 rcases h1 with h1 | h1
 ·obtain ⟨e, he, hb⟩ := Array.any_eq_true'.1 h1
  simp only [Bool.and_eq_true, beq_iff_eq] at hb
  exact absurd hb.2 (hno e he hb.1)
 ·simpa [Bool.and_eq_true] using h1
section
variable {E : Env} {P : Program} {Γ : Ctx} {M : Mem} {ty : TypeId} {pos : String} {after : Array Edge} {Q : Exit → Act → World → Prop}
def OKL (E : Env) (P : Program) (Γ : Ctx) (M : Mem) (o : Oper) (S : VP) : Prop :=
 ∀ a w F, Sat E Γ M a w F → ∃ v, (∀ w', CellsIn w w' → (execOp a.eval o).run P w' = .ok (.value v) w') ∧ S.h w F v
theorem DrB.tl {l : List Oper} {bs : List Nat} {d : Nat} {o : Oper} {S : VP} (i : Nat) (hi : l[i]? = some o) (hd : o.dst = some d) (hg : o.guard = none) (hn : Nat.blt d E.n = true)
  (hok : OKL E P Γ M o S) (k : DrB E P l ((d, S) :: Γ) M Q (bs ++ [i])) (hs : Region.noSelect l.toArray = true := by kernel_rfl)
  (hf : freeC l (xj l.length bs) i = true := by kernel_rfl) (hr : (Region.ready .any l.toArray (xj l.length bs)).contains i = true := by kernel_rfl) (hl : Nat.blt bs.length l.length = true := by kernel_rfl)
  (hQ : ∀ c a w v, Q (.panic c) (Act.put a (some d) v) w → Q (.panic c) a w := by exact fun _ _ _ _ h => h) : DrB E P l Γ M Q bs := by
 intro a w F s
 obtain ⟨v, hv, hS⟩ := hok a w F s
 have hd' : d < E.n := by simpa [Nat.blt_eq] using hn
 have hl' : bs.length < l.length := by simpa [Nat.blt_eq] using hl
 have hk := k (a.put (some d) v) w F (s.put hd' hS)
 obtain ⟨f, hfu⟩ : ∃ f, l.length - bs.length = f + 1 := ⟨l.length - bs.length - 1, by omega⟩
 rw [hfu]
 refine ed (i := i) (oi := o) (v := v) (w0 := w) (by simpa using hi) hg (Region.noSelect_spec hs) (fun c a w h => hQ c a w v (by rw [hd] at h; exact h)) f _ a w (CellsIn.refl w) (fun j oj hj => freeC_spec hi hf j oj (by simpa using hj)) (by simpa using hr) hv ?_
 rw [hd, ← dO]
 rw [List.length_append, List.length_singleton, show l.length - (bs.length + 1) = f by omega] at hk
 exact hk
theorem OKL.load1 {d : Option Tmp} {x : Operand} {b off i : Nat} {T : TypeId} {Ss : List VP} {S : VP} (hx : Has E Γ M x (qM b off)) (hM : M[i]? = some (some b, zB Ss)) (hT : tyB P T = some (1, false))
  (hS : Ss[off]? = some S) : OKL E P Γ M ⟨d, .load T x, ty, pos, after, none⟩ S := fun a w F s => by
 obtain ⟨o, hb, vs, T', rfl, hv⟩ := jF s hM
 have h1 : a.eval x = .pointer (some ⟨b, off, none⟩) := hx a w F s
 obtain ⟨v, hv1, hv2⟩ := hv.get off S hS
 have hc : w.cell? ⟨b, off, none⟩ = some v := by simp [World.cell?, hb, hv1]
 refine ⟨v, fun w' hw' => ?_, hv2⟩
 simp only [execOp, h1, Instr.loadAt, Instr.sureAddr, loadVar, Sem.run_bind, Sem.run_pure, Result.andThen_ok, xx hT]
 simp [hw' _ _ hc]
end
end Go.En
namespace Go.En
open Go.RowKit
section
variable {E : Env} {P : Program} {Γ : Ctx} {M : Mem} {ty : TypeId} {pos : String} {after : Array Edge} {gd : Option (Nat × Bool)} {d : Option Tmp}
 {ops : Array Oper} {Q : Exit → Act → World → Prop} {rest : List Oper} {T T' : TypeId} {x y : Operand} {α : Type} {f : α → VP} {fk : α → List VP} {xs : List α} {k : Nat}
theorem append_none {w : World} {e : TypeId} {inf : TypeInfo} {base b2 : Option Addr} {n c c2 : Nat} (hu : P.underlying T = some (.slice e)) (hi : P.info? e = some inf) (hn : n ≤ c) :
  (Builtin.append_ #[T, T] ty #[.slice base n c, .slice b2 0 c2]).run P w = .ok (.slice base n c) w := by
 cases base <;> cases b2 <;> simp [Builtin.append_, run_underlying hu, sizeOf, typeInfo, hi, Builtin.lenOf, Builtin.firstCells, loadCells, loadCellsFrom, storeCells, hn]
theorem Ops.appendGK0 {d i : Nat} {e : TypeId} {g0 : Bool} {z : Value} {u : α} {g : Gr α} {ys zs : List α} (hk : ∀ y, (fk y).length = k) (hk0 : 0 < k) (h1 : ∀ u, Ones (fk u)) (hT : slB P T = some e) (ht : tyB P e = some (k, g0)) (hz : qI P e = some z) (hZ : ∀ w F, All2 (fk u) w F z.cells.toList) (hby : byLe P e 1024 = true)
  (hx : Has E Γ M x (isGr g ys.length)) (hM : M[i]? = some (grMK fk g ys)) (hy : Has E Γ M y (SlK k fk zs)) (hn' : ys.length + zs.length ≤ 4294967296) (hd : Nat.blt d E.n = true)
  (kk : ∀ g' : Gr α, Ops E P ops Q rest ((d, isGr g' (ys.length + zs.length)) :: Γ) (M.set i (grMK fk g' (ys ++ zs)))) :
  Ops E P ops Q (⟨some d, .call ⟨.builtin .append, #[x, y], #[T, T]⟩, ty, pos, after, none⟩ :: rest) Γ M := by
 rcases Nat.eq_zero_or_pos zs.length with h0 | h0
 ·obtain rfl : zs = [] := List.eq_nil_of_length_eq_zero h0
  intro a w F s
  refine wpList_plain rfl fun K hK => ?_
  have hd' : d < E.n := by simpa [Nat.blt_eq] using hd
  obtain ⟨a1, cap, e2, g1, g2, g3, g4⟩ := hy a w F s
  have hu := qF hT
  obtain ⟨inf, hi⟩ : ∃ i, P.info? e = some i := by
   unfold byLe at hby
   cases hi : P.info? e with
   | none => simp [hi] at hby
   | some i => exact ⟨i, rfl⟩
  have hset : M.set i (grMK fk g (ys ++ [])) = M := set_self (by rw [hM, List.append_nil])
  have kk1 := kk g
  rw [hset] at kk1
  have hval := hx a w F s
  obtain ⟨base, c, e1, hnc⟩ : ∃ base c, a.eval x = .slice base ys.length c ∧ ys.length ≤ c := by
   rcases hval with ⟨_, hyl, e1⟩ | ⟨b, _, e1, h, _⟩
   ·exact ⟨none, 0, by rw [e1, hyl], by omega⟩
   ·exact ⟨_, _, e1, by omega⟩
  have hr := append_none (P := P) (T := T) (ty := ty) (w := w) (base := base) (b2 := a1) (n := ys.length) (c := c) (c2 := cap) hu hi hnc
  unfold Oper.wp
  have hr2 : (execOp a.eval (⟨some d, .call ⟨.builtin .append, #[x, y], #[T, T]⟩, ty, pos, after, none⟩ : Oper)).run P w = .ok (.value (.slice base ys.length c)) w := by
   simp only [execOp, resolve, invoke, builtin, Sem.run_bind]
   simp [e1, e2, Sem.run_bind, hr]
  rw [hr2]
  refine hK _ _ (kk1 _ _ F (s.put hd' ?_))
  rw [← e1]; exact hval
 ·exact Ops.appendGK hk hk0 h1 hT ht hz hZ hby hx hM hy hn' h0 hd kk
theorem Cv.winGrK {t b n c i : Nat} {ys : List α} (ht : look Γ t = some (zu b 0 n c)) (hM : M[i]? = some (some b, zB (xs.flatMap fk))) (hn : n ≤ xs.length) (hc : xs.length = c) (hy : xs.take n = ys) :
  Cv E Γ M ((t, isGr (⟨some b, c, xs.drop n⟩ : Gr α) ys.length) :: Γ) (M.set i (grMK fk ⟨some b, c, xs.drop n⟩ ys)) := by
 have e : ys.length = n := by rw [← hy, List.length_take]; omega
 rw [e, ← hy]
 exact Cv.winGr ht hM hn hc
theorem Cv.winGrM {t b n c i : Nat} {ys : List α} (ht : look Γ t = some (zu b 0 n c)) (hM : M[i]? = some (some b, zB (xs.map f))) (hn : n ≤ xs.length) (hc : xs.length = c) (hy : xs.take n = ys) :
    Cv E Γ M ((t, isGr (⟨some b, c, xs.drop n⟩ : Gr α) ys.length) :: Γ) (M.set i (grM f ⟨some b, c, xs.drop n⟩ ys)) := fun a w F s => by
  subst hy
  have e : (xs.take n).length = n := by rw [List.length_take]; omega
  rw [e]
  have hset : M.set i (grM f ⟨some b, c, xs.drop n⟩ (xs.take n)) = M := by
    refine set_self ?_
    rw [hM]; unfold grM; simp only [List.take_append_drop]
  rw [hset]
  refine ⟨F, s.wider fun t' S' ht' => ?_⟩
  simp only [look] at ht'
  cases hb : Nat.beq t t' with
  | false => rw [hb] at ht'; exact s.slots t' S' ht'
  | true =>
    rw [hb] at ht'
    obtain rfl : isGr (⟨some b, c, xs.drop n⟩ : Gr α) n = S' := by simpa using ht'
    obtain rfl := Nat.eq_of_beq_eq_true hb
    obtain ⟨e1, e2, e3⟩ := s.slots _ _ ht
    exact .inr ⟨b, rfl, e1, by show n + (xs.drop n).length = c; rw [List.length_drop]; omega, e3⟩
theorem Cv.freezeGn {t i n : Nat} {g : Gr α} {ys : List α} (hW : E.W = []) (ht : look Γ t = some (isGr g n)) (hM : M[i]? = some (grM f g ys)) (hn : n = ys.length) : Cv E Γ M ((t, SlM f ys) :: Γ) (M.eraseIdx i) := by
 subst hn; exact Cv.freezeG hW ht hM
end
end Go.En
namespace Go.En
open Go.RowKit
section
variable {E : Env} {P : Program} {Γ : Ctx} {M : Mem} {ty : TypeId} {pos : String} {after : Array Edge} {gd : Option (Nat × Bool)} {d : Option Tmp}
 {ops : Array Oper} {Q : Exit → Act → World → Prop} {rest : List Oper} {T T' : TypeId} {x y : Operand} {α : Type} {fk : α → List VP} {xs : List α} {k : Nat}
def SlE (k : Nat) (fk : α → List VP) (xs : List α) : VP := ⟨fun w F v => 0 < xs.length ∧ xs.length ≤ maxLen ∧ ∃ b vs, v = .slice (some ⟨b, 0, none⟩) xs.length xs.length ∧ F b ∧ All2 (xs.flatMap fk) w F vs ∧ ∀ (j : Nat) u, vs[j]? = some u → w.cell? ⟨b, j, none⟩ = some u,
 fun w w' F F' v h h1 h2 => by
  obtain ⟨g0, gm, b, vs, e, g1, g2, g3⟩ := h
  refine ⟨g0, gm, b, vs, e, h2 b g1, All2.mono h1 h2 _ _ g2, fun j u hj => ?_⟩
  have := g3 j u hj
  unfold World.cell? at this ⊢
  rw [h1 b g1]; exact this⟩
instance : One (SlE k fk xs) := ⟨fun w F v h => by obtain ⟨_, _, b, vs, rfl, _⟩ := h; rfl⟩
instance : Shape (SlE k fk xs) [SlE k fk xs] := .of_one inferInstance
theorem SlE.sl (w : World) (F : Blk) (v : Value) (h : (SlE k fk xs).h w F v) (hk : ∀ y, (fk y).length = k) : (SlK k fk xs).h w F v := by
 obtain ⟨g0, gm, b, vs, e, g1, g2, g3⟩ := h
 refine ⟨some ⟨b, 0, none⟩, xs.length, e, Nat.le_refl _, gm, qW hk xs, .inr ⟨b, 0, rfl, g1, vs, g2, fun j u hj => ?_⟩⟩
 rw [Nat.zero_add]; exact g3 j u hj
theorem OK1.buildSE {T e : TypeId} {n m : Nat} {g : Bool} {z : Value} {ps : List (Nat × Operand)} (Z : List VP) (xs : List α) (hT : slB P T = some e) (ht : tyB P e = some (m, g)) (hz : qI P e = some z) (hZ : ∀ w F, All2 Z w F ((List.replicate n z.cells.toList).flatten)) (hnm : Nat.ble (n * m) 1000 = true) (hn0 : Nat.beq (n * m) 0 = false)
    (h : Parts E Γ M (fun i => some (i * m, m)) Z ps (xs.flatMap fk)) (hl : Nat.beq (xs.flatMap fk).length (n * m) = true) (hx : n = xs.length) : OK1 E P Γ M ⟨d, .buildSlice T n ps.toArray, ty, pos, after, gd⟩ (SlE m fk xs) := by
  intro a w F s K Q hK
  have hu := qF hT
  have hnm' := Nat.le_of_ble_eq_true hnm
  have hn0' := Nat.ne_of_beq_eq_false hn0
  have hm : (n * z.cells.size) = n * m := by
    have h1 := (hZ w F).len
    have h2 := Nat.eq_of_beq_eq_true hl
    have h3 : (xs.flatMap fk).length = Z.length := by
      clear h1 h2 hK hZ hl
      generalize xs.flatMap fk = Z' at h
      induction h with
      | nil => rfl
      | @cons Z Z' i off k x S0 Ss r sh a1 a2 a3 a4 _ ih =>
        rw [ih, vf _ _ _ (by have := Nat.le_of_ble_eq_true a4; have := Nat.eq_of_beq_eq_true a3; omega)]
        have := Nat.le_of_ble_eq_true a4; have := Nat.eq_of_beq_eq_true a3
        simp; omega
    simp at h1
    omega
  have hz0 : z.cells.size = m := by
    rcases Nat.eq_zero_or_pos n with h0 | h0
    · subst h0; simp at hn0'
    · exact Nat.eq_of_mul_eq_mul_left h0 hm
  have hfl : ((Array.range (n * m)).map fun j => z.cells[j % z.cells.size]!) = ((List.replicate n z.cells.toList).flatten).toArray := xc hz0
  obtain ⟨cells, h1, h2⟩ := h.fill s ((List.replicate n z.cells.toList).flatten).toArray (by simpa using hZ w F)
  have hr : (execOp a.eval (⟨d, .buildSlice T n ps.toArray, ty, pos, after, gd⟩ : Oper)).run P w = .ok (.value (.slice (some ⟨w.heap.size, 0, none⟩) n n)) { w with heap := w.heap.push (.cells cells e) } := by
    have hmap : (ps.toArray.map fun (p : Nat × Operand) => (p.1, a.eval p.2)).toList = ps.map fun p => (p.1, a.eval p.2) := by simp
    have hbig : ¬ n * m > 2 ^ 24 := by omega
    simp only [execOp, Instr.buildSlice, Sem.run_bind, zy hu, Result.andThen_ok, zl ht, if_neg hbig, if_neg hn0', jM hz, Sem.run_pure, hmap, hfl, h1, newRow, run_newObj]
  unfold Oper.wp
  rw [hr]
  have ad := eW s (.cells cells e)
  have h2' := All2.mono (ad.same s.flt) ad.sub _ _ h2
  have hnp : 0 < n := by
    rcases Nat.eq_zero_or_pos n with h0 | h0
    · subst h0; simp at hn0'
    · exact h0
  have hmp : 0 < m := by
    rcases Nat.eq_zero_or_pos m with h0 | h0
    · subst h0; simp at hn0'
    · exact h0
  refine hK _ _ _ ad ⟨by omega, ?_, w.heap.size, cells.toList, by rw [hx], .inr rfl, h2', fun j u hj => ?_⟩
  · have := Nat.le_mul_of_pos_right n hmp
    rw [zf]; omega
  · show World.cell? { w with heap := w.heap.push (.cells cells e) } ⟨w.heap.size, j, none⟩ = some u
    simp only [World.cell?, Array.getElem?_push_size]
    simpa using hj
theorem Ops.appendE {d : Nat} {e : TypeId} {g0 : Bool} {z : Value} {u : α} {ys zs : List α} (hk : ∀ y, (fk y).length = k) (hk0 : 0 < k) (hT : slB P T = some e) (ht : tyB P e = some (k, g0)) (hz : qI P e = some z) (hZ : ∀ w F, All2 (fk u) w F z.cells.toList) (hby : byLe P e 1024 = true)
  (hx : Has E Γ M x (SlE k fk ys)) (hy : Has E Γ M y (SlK k fk zs)) (hn' : ys.length + zs.length ≤ 4294967296) (h0 : 0 < zs.length) (hd : Nat.blt d E.n = true)
  (kk : ∀ g' : Gr α, Ops E P ops Q rest ((d, isGr g' (ys.length + zs.length)) :: Γ) (grMK fk g' (ys ++ zs) :: M)) :
  Ops E P ops Q (⟨some d, .call ⟨.builtin .append, #[x, y], #[T, T]⟩, ty, pos, after, none⟩ :: rest) Γ M := by
 intro a w F s
 refine wpList_plain rfl fun K hK => ?_
 have hd' : d < E.n := by simpa [Nat.blt_eq] using hd
 obtain ⟨a1, cap, e2, g1, g2, g3, g4⟩ := hy a w F s
 have hu := qF hT
 obtain ⟨inf, hi, hb⟩ : ∃ i, P.info? e = some i ∧ i.bytes ≤ 1024 := by
  unfold byLe at hby
  cases hi : P.info? e with
  | none => simp [hi] at hby
  | some i => rw [hi] at hby; exact ⟨i, rfl, Nat.le_of_ble_eq_true hby⟩
 have hsz : inf.size = k := by
  have := zl (P := P) (w := w) ht
  simp [sizeOf, typeInfo, go_sem, hi] at this; exact this
 have hzz : inf.zero = some z := by unfold qI at hz; rw [hi] at hz; simpa using hz
 have hone : z.cells.size = k := by have := (hZ w F).len; rw [hk] at this; simpa using this.symm
 have hzs : ∀ k, (Builtin.zeroCells z.cells k).toList = (List.replicate k z.cells.toList).flatten := fun k => by
  unfold Builtin.zeroCells
  rw [xc rfl]
 have hall : ∀ c, All2 ((List.replicate c u).flatMap fk) w F ((List.replicate c z.cells.toList).flatten) := fun c => by rw [wC]; exact (hZ w F).rep c
 rcases g4 with g4 | ⟨b1, off, rfl, hF, vs, hv, hc⟩
 ·omega
 have hlen := hv.ofFlat hk
 have hnews : ∀ j u, vs[j]? = some u → w.cell? ((⟨b1, off, none⟩ : Addr).add j) = some u := fun j u hj => by rw [qS]; exact hc j u hj
 have hnl : vs.length = zs.length * inf.size := by rw [hsz]; exact hlen
 obtain ⟨hy0, hym, b, us, e1, hFb, hus, hcu⟩ := hx a w F s
 have husl := hus.ofFlat hk
 have hml : ys.length + zs.length ≤ maxLen := by rw [zf]; omega
 have hg : ys.length < ys.length + zs.length := by omega
 have hcell : ∀ j u, us[j]? = some u → w.cell? ((⟨b, 0, none⟩ : Addr).add j) = some u := fun j u hj => by
  rw [qS, Nat.zero_add]; exact hcu j u hj
 have hfit : Builtin.nextslicecap (ys.length + zs.length) ys.length * inf.bytes ≤ 281474976710656 := by
  have h1 := nextslicecap_le hg
  have h2 := Nat.mul_le_mul (Nat.le_trans h1 (show 2 * (ys.length + zs.length) ≤ 8589934592 by omega)) hb
  omega
 have hr := run_append_grow (P := P) w T ty e inf z hu hi hzz ⟨b, 0, none⟩ ys.length ys.length us (by rw [husl, hsz]) hcell ⟨b1, off, none⟩ zs.length cap vs hnl hnews hg (by omega) hfit
 have hf : K (a.put (some d) (.slice (some ⟨w.heap.size, 0, none⟩) (ys.length + zs.length) (grownCap w (ys.length + zs.length) ys.length e))) { w with heap := w.heap.push (.cells (us ++ vs ++ (Builtin.zeroCells z.cells (grownCap w (ys.length + zs.length) ys.length e - (ys.length + zs.length))).toList).toArray e), drawn := w.drawn + 1 } := by
  obtain ⟨cp, hcp⟩ : ∃ cp, cp = grownCap w (ys.length + zs.length) ys.length e := ⟨_, rfl⟩
  have h1 : ys.length + zs.length ≤ cp := by rw [hcp]; exact grownCap_ge _ _ _ _
  have h2 : cp ≤ maxLen := by rw [hcp]; exact grownCap_le_maxLen _ _ _ _ hml
  rw [← hcp]
  have hcs : All2 ((ys ++ zs ++ List.replicate (cp - (ys.length + zs.length)) u).flatMap fk) w F (us ++ vs ++ (Builtin.zeroCells z.cells (cp - (ys.length + zs.length))).toList) := by
   rw [List.flatMap_append, List.flatMap_append, hzs]; exact All2.append (All2.append hus hv) (hall _)
  have s1 := (s.adv (Adv.drew w F)).alloc (T := e) (All2.mono (w := w) (w' := { w with drawn := w.drawn + 1 }) (fun _ _ => rfl) (fun _ h => h) _ _ hcs)
  refine hK _ _ (kk ⟨some w.heap.size, cp, List.replicate (cp - (ys.length + zs.length)) u⟩ _ _ F (s1.put hd' (.inr ⟨_, rfl, rfl, ?_, h2⟩)))
  simp; omega
 have hr2 : (execOp a.eval (⟨some d, .call ⟨.builtin .append, #[x, y], #[T, T]⟩, ty, pos, after, none⟩ : Oper)).run P w = .ok (.value (.slice (some ⟨w.heap.size, 0, none⟩) (ys.length + zs.length) (grownCap w (ys.length + zs.length) ys.length e))) { w with heap := w.heap.push (.cells (us ++ vs ++ (Builtin.zeroCells z.cells (grownCap w (ys.length + zs.length) ys.length e - (ys.length + zs.length))).toList).toArray e), drawn := w.drawn + 1 } := by
  have earr : us.toArray ++ vs.toArray ++ Builtin.zeroCells z.cells (grownCap w (ys.length + zs.length) ys.length e - (ys.length + zs.length)) = (us ++ vs ++ (Builtin.zeroCells z.cells (grownCap w (ys.length + zs.length) ys.length e - (ys.length + zs.length))).toList).toArray := by apply Array.ext'; simp
  simp only [execOp, resolve, invoke, builtin, Sem.run_bind]
  rw [← earr]
  simp [e1, e2, Sem.run_bind, hr]
  first | rfl | exact ⟨rfl, rfl⟩ | done
 unfold Oper.wp
 rw [hr2]
 exact hf
end
end Go.En
namespace Go.Mz
open Go.Pz Go.Nt Go.En
def tab (N C : Nat) (g : Nat → Nat → Int) : List Int := (List.range N).map fun j => g (j / C) (j % C)
theorem xG (N C : Nat) (g : Nat → Nat → Int) : (tab N C g).length = N := by unfold tab; rw [List.length_map, List.length_range]
theorem jo {C i k : Nat} (h : k < C) : (i * C + k) / C = i ∧ (i * C + k) % C = k := by
 have hC : 0 < C := by omega
 constructor
 ·rw [Nat.mul_comm, Nat.mul_add_div hC, Nat.div_eq_of_lt h, Nat.add_zero]
 ·rw [Nat.mul_comm, Nat.mul_add_mod, Nat.mod_eq_of_lt h]
theorem wh {N C i k : Nat} (g : Nat → Nat → Int) (hk : k < C) (hN : i * C + k < N) : cf (tab N C g) (i * C + k) = g i k := by
 unfold tab
 rw [xF, if_pos hN, (jo hk).1, (jo hk).2]
theorem cD {C i k : Nat} (g : Nat → Nat → Int) (hk : k < C) : tab (i * C + k) C g ++ [g i k] = tab (i * C + (k + 1)) C g := by
 unfold tab
 rw [← Nat.add_assoc, List.range_succ, List.map_append, List.map_singleton, (jo hk).1, (jo hk).2]
theorem cE {C i : Nat} (g : Nat → Nat → Int) : tab (i * C + C) C g = tab ((i + 1) * C + 0) C g := by rw [Nat.add_zero, Nat.succ_mul]
theorem qG {R C i k : Nat} (hi : i < R) (hk : k < C) : i * C + k < R * C := by
 have : (i + 1) * C ≤ R * C := Nat.mul_le_mul_right C hi
 rw [Nat.succ_mul] at this; omega
theorem qL {R C : Nat} (hR : R ≤ 64) (hC : C ≤ 64) : R * C ≤ 4096 := Nat.le_trans (Nat.mul_le_mul hR hC) (by decide)
theorem ju {N C K : Nat} {g : Nat → Nat → Int} (h : ∀ i k, (List.length (zA (g i k).natAbs)) ≤ K) : Bd (tab N C g) K := fun i => by
 unfold Go.Mz.tab
 rw [xF]
 split
 ·exact h _ _
 ·rw [Int.natAbs_zero, zF]; exact Nat.zero_le _
def xe (r c : Int) (n : Nat) : Bool := (decide (0 ≤ r) && decide (r ≤ 64)) && (decide (0 ≤ c) && decide (c ≤ 64)) && decide ((n : Int) = r * c)
theorem formB_iff {r c : Int} {n : Nat} : xe r c n = true ↔ ∃ R C : Nat, r = R ∧ c = C ∧ R ≤ 64 ∧ C ≤ 64 ∧ n = R * C := by
 unfold xe
 simp only [Bool.and_eq_true, decide_eq_true_eq]
 constructor
 ·rintro ⟨⟨⟨h1, h2⟩, h3, h4⟩, h5⟩
  refine ⟨r.toNat, c.toNat, by omega, by omega, by omega, by omega, ?_⟩
  have : (n : Int) = (r.toNat * c.toNat : Nat) := by rw [h5, Int.natCast_mul]; congr 1 <;> omega
  omega
 ·rintro ⟨R, C, rfl, rfl, h1, h2, rfl⟩
  exact ⟨⟨⟨by omega, by omega⟩, by omega, by omega⟩, by rw [Int.natCast_mul]⟩
theorem zj {R C n : Nat} (h1 : R ≤ 64) (h2 : C ≤ 64) (h : n = R * C) : xe (R : Int) (C : Int) n = true := formB_iff.2 ⟨R, C, rfl, rfl, h1, h2, h⟩
theorem bY {r c : Int} (h : (0 ≤ r ∧ r ≤ 64) ∧ (0 ≤ c ∧ c ≤ 64)) : 0 ≤ r * c ∧ r * c ≤ 4096 := by
 refine ⟨Int.mul_nonneg h.1.1 h.2.1, ?_⟩
 have h1 : r * c ≤ 64 * c := Int.mul_le_mul_of_nonneg_right h.1.2 h.2.1
 omega
def dotS (f g : Nat → Int) : Nat → Int
 | 0 => 0
 | n + 1 => dotS f g n + f n * g n
theorem dE {f f' g g' : Nat → Int} : ∀ n, (∀ i, i < n → f i = f' i) → (∀ i, i < n → g i = g' i) → dotS f g n = dotS f' g' n
  | 0, _, _ => rfl
  | n + 1, h, k => by
    show dotS f g n + f n * g n = dotS f' g' n + f' n * g' n
    rw [dE n (fun i hi => h i (by omega)) (fun i hi => k i (by omega)), h n (by omega), k n (by omega)]
theorem bj {f g : Nat → Int} {K L : Nat} (h : ∀ i, (List.length (zA (f i).natAbs)) ≤ K) (k : ∀ i, (List.length (zA (g i).natAbs)) ≤ L) : ∀ n, (List.length (zA (dotS f g n).natAbs)) ≤ K + L + n
  | 0 => by show (List.length (zA (Int.natAbs 0))) ≤ _; rw [Int.natAbs_zero, zF]; exact Nat.zero_le _
  | n + 1 => by
    have h1 := bj h k n
    have h2 := qD (f n) (g n)
    have h3 := h n
    have h4 := k n
    have h5 := xU (dotS f g n) (f n * g n)
    show (List.length (zA (dotS f g n + f n * g n).natAbs)) ≤ _
    omega
end Go.Mz
namespace Go.En
open Go.Nt Go.Pz Go.Mz
abbrev PI (R C : Nat) : Type := { p : Nat × Nat // p.1 < R ∧ p.2 < C }
abbrev isAt (P : Program) (R C : Nat) (f : Nat → Nat → Bool × List Nat) : VP := aN (ι := PI R C) P (fun p => [isI (p.1.1 : Int), isI (p.1.2 : Int)]) (fun p => Flat (zc (f p.1.1 p.1.2)))
abbrev isM (r c : Int) (xs : List (Bool × List Nat)) : VP := Flat [isI r, isI c, SlK 2 zc xs]
abbrev isMz (R C : Nat) (L : List Int) : VP := Flat [isI (R : Int), isI (C : Int), isP L]
abbrev ptM (r c : Int) (xs : List (Bool × List Nat)) : VP := PtrL [isI r, isI c, SlK 2 zc xs]
theorem wb {R C : Nat} {L L' : List Int} (h : L = L') : isMz R C L = isMz R C L' := h ▸ rfl
theorem grF_eq {α : Type} {fk : α → List VP} {g : Gr α} {ys ys' : List α} {n : Nat} {b : Nat} {A B : VP} {r : Mem} (hn : n = ys'.length) (h : ys = ys') : (grMK fk g ys :: (some b, zB [A, B, isGr g n]) :: r : Mem) = grMK fk g ys' :: (some b, zB [A, B, isGr g ys'.length]) :: r := by subst h; subst hn; rfl
theorem zvz (f : Nat → Nat → Int) : (fun i k => zv (nz (f i k)).1 (nz (f i k)).2) = f := by funext i k; exact aw _
end Go.En
namespace Go.Hn
open Go.Nt Go.Pz Go.Mz Go.En
def mx2 (x : Int) (p : List Int) (y : Int) (q : List Int) : List Int := (List.range p.length).map fun k => x * cf p k + y * cf q k
theorem aJ (x : Int) (p : List Int) (y : Int) (q : List Int) : (mx2 x p y q).length = p.length := by unfold mx2; rw [List.length_map, List.length_range]
theorem vP {x : Int} {p : List Int} {y : Int} {q : List Int} (h : q.length = p.length) (k : Nat) : cf (mx2 x p y q) k = x * cf p k + y * cf q k := by
 unfold mx2
 rw [xF]
 split
 ·rfl
 ·rw [xS (l := p) (by omega), xS (l := q) (by omega)]; omega
theorem Bd_mx2 {x y : Int} {p q : List Int} {A B K L N : Nat} (hx : (List.length (zA x.natAbs)) ≤ A) (hp : Bd p K) (hy : (List.length (zA y.natAbs)) ≤ B) (hq : Bd q L) (h1 : A + K + 1 ≤ N) (h2 : B + L + 1 ≤ N) : Bd (mx2 x p y q) N := fun k => by
 unfold mx2
 rw [xF]
 split
 ·have e1 := xU (x * cf p k) (y * cf q k)
  have e2 := qD x (cf p k)
  have e3 := qD y (cf q k)
  have e4 := hp k
  have e5 := hq k
  omega
 ·rw [Int.natAbs_zero, zF]; exact Nat.zero_le _
def xgg (a b : Int) : Int := (Nat.gcd a.natAbs b.natAbs : Nat)
def xgx (a b : Int) : Int := if b = 0 then sgn a else xg a b
def xgy (a b : Int) : Int := if b = 0 then 0 else (xgg a b - xg a b * a).tdiv b
theorem xgg_nn (a b : Int) : 0 ≤ xgg a b := Int.natCast_nonneg _
theorem xgg_zero {a b : Int} : xgg a b = 0 ↔ a = 0 ∧ b = 0 := by
 unfold xgg
 constructor
 ·intro h
  have h1 : Nat.gcd a.natAbs b.natAbs = 0 := by omega
  have := Nat.gcd_eq_zero_iff.1 h1
  omega
 ·rintro ⟨rfl, rfl⟩; rfl
theorem aD (a b : Int) : xgg a b ∣ a := Int.natAbs_dvd_natAbs.1 (by unfold xgg; rw [Int.natAbs_natCast]; exact Nat.gcd_dvd_left _ _)
theorem wP (a b : Int) : xgg a b ∣ b := Int.natAbs_dvd_natAbs.1 (by unfold xgg; rw [Int.natAbs_natCast]; exact Nat.gcd_dvd_right _ _)
theorem xg_dvd {a b : Int} (h : b ≠ 0) : b ∣ xgg a b - xg a b * a := by
 have hc := (bp a b).2.1
 rw [(bp a b).1] at hc
 show b ∣ ((Nat.gcd a.natAbs b.natAbs : Nat) : Int) - xg a b * a
 unfold xg
 obtain ⟨u, hu⟩ := hc
 have hg := aD a b
 have hg2 := wP a b
 obtain ⟨v, hv⟩ := hg
 obtain ⟨w, hw⟩ := hg2
 have hgp : 0 < xgg a b := by
  have := xgg_nn a b
  rcases Int.lt_or_eq_of_le this with h1 | h1
  ·exact h1
  ·exact absurd (xgg_zero.1 h1.symm).2 h
 change xgg a b - (cof a b 1 0).2 * a = b * u at hu
 show b ∣ xgg a b - (cof a b 1 0).2 % ((b.natAbs : Int) / xgg a b) * a
 generalize (cof a b 1 0).2 = c at *
 generalize hG : xgg a b = g at *
 have e1 : (b.natAbs : Int) / g = (w.natAbs : Int) := by
  have : (b.natAbs : Int) = g * (w.natAbs : Int) := by
   rw [hw, Int.natAbs_mul, Int.natCast_mul]
   rw [show ((g.natAbs : Nat) : Int) = g by omega]
  rw [this, Int.mul_ediv_cancel_left _ (by omega)]
 rw [e1]
 have e2 := Int.emod_add_mul_ediv c (w.natAbs : Int)
 obtain ⟨s, hs⟩ : ∃ s : Int, (w.natAbs : Int) = w * s := by
  rcases Int.natAbs_eq w with h1 | h1
  ·exact ⟨1, by omega⟩
  ·exact ⟨-1, by omega⟩
 refine ⟨u + s * (c / (w.natAbs : Int)) * v, ?_⟩
 have e3 : c % (w.natAbs : Int) = c - w * s * (c / (w.natAbs : Int)) := by rw [hs] at e2 ⊢; omega
 rw [e3]
 generalize c / (w.natAbs : Int) = t
 have hb : b * (u + s * t * v) = b * u + (g * w) * s * t * v := by rw [← hw]; grind
 rw [hb, ← hu]
 have ha : a = g * v := hv
 grind
theorem dh (a b : Int) : xgx a b * a + xgy a b * b = xgg a b := by
 unfold xgx xgy
 by_cases h : b = 0
 ·rw [if_pos h, if_pos h, h]
  unfold xgg
  rw [show (0 : Int).natAbs = 0 from rfl, Nat.gcd_zero_right]
  rcases zp a with ⟨e, e2⟩ | ⟨e, e2⟩ | ⟨e, e2⟩ <;> rw [e] <;> omega
 ·rw [if_neg h, if_neg h]
  obtain ⟨q, hq⟩ := xg_dvd (a := a) h
  rw [hq, Int.mul_tdiv_cancel_left _ h]
  have : b * q = q * b := Int.mul_comm _ _
  omega
theorem xgy_ex {a b : Int} (h : b ≠ 0) : (if b ≠ 0 ∧ (xgg a b - xg a b * a).tmod b = 0 then (xgg a b - xg a b * a).tdiv b else 0) = xgy a b := by
 rw [if_pos ⟨h, Int.tmod_eq_zero_of_dvd (xg_dvd h)⟩]
 unfold xgy
 rw [if_neg h]
theorem xgx_nw (a b : Int) {K : Nat} (hb : (List.length (zA b.natAbs)) ≤ K) : (List.length (zA (xgx a b).natAbs)) ≤ K + 1 := by
 unfold xgx
 split
 ·have : (List.length (zA (sgn a).natAbs)) ≤ 1 := zz (by have := ab a; omega)
  omega
 ·rename_i h
  exact Nat.le_trans (ze (xg_le h)) (by omega)
theorem tdiv_abs {x b : Int} {m : Nat} (hb : b ≠ 0) (h : x.natAbs ≤ b.natAbs * m) : (x.tdiv b).natAbs ≤ m := by
 rw [Int.natAbs_tdiv]
 exact Nat.div_le_of_le_mul h
theorem xgy_nw (a b : Int) {K : Nat} (ha : (List.length (zA a.natAbs)) ≤ K) : (List.length (zA (xgy a b).natAbs)) ≤ K + 2 := by
 unfold xgy
 split
 ·rw [Int.natAbs_zero, zF]; exact Nat.zero_le _
 ·rename_i h
  have h1 : ((xgg a b - xg a b * a).tdiv b).natAbs ≤ 1 + a.natAbs := by
   refine tdiv_abs h ?_
   have e1 := Int.natAbs_sub_le (xgg a b) (xg a b * a)
   have e2 : (xgg a b).natAbs ≤ b.natAbs := by unfold xgg; rw [Int.natAbs_natCast]; exact Nat.gcd_le_right _ (by omega)
   rw [Int.natAbs_mul] at e1
   have e3 := Nat.mul_le_mul_right a.natAbs (xg_le (A := a) h)
   rw [Nat.mul_add, Nat.mul_one]
   omega
  refine Nat.le_trans (ze h1) (Nat.le_trans (va _ _) ?_)
  have := fC
  omega
/-! ### the steps -/
def jn (rs : List (List Int)) (t i col : Nat) : List (List Int) :=
 if xgg (cf (rs.getD t []) col) (cf (rs.getD i []) col) = 0 then rs else
 (rs.set t (mx2 (xgx (cf (rs.getD t []) col) (cf (rs.getD i []) col)) (rs.getD t []) (xgy (cf (rs.getD t []) col) (cf (rs.getD i []) col)) (rs.getD i []))).set i
  (mx2 (-((cf (rs.getD i []) col).tdiv (xgg (cf (rs.getD t []) col) (cf (rs.getD i []) col)))) (rs.getD t []) ((cf (rs.getD t []) col).tdiv (xgg (cf (rs.getD t []) col) (cf (rs.getD i []) col))) (rs.getD i []))
theorem qr {α : Type} {l : List α} {i : Nat} {x d : α} (h : l[i]? = some x) : l.getD i d = x := by rw [List.getD, h]; rfl
theorem lt_of_some {α : Type} {l : List α} {i : Nat} {x : α} (h : l[i]? = some x) : i < l.length := by
 rcases Nat.lt_or_ge i l.length with h1 | h1
 ·exact h1
 ·rw [List.getElem?_eq_none h1] at h; cases h
theorem jn_no {rs : List (List Int)} {t i col : Nat} {p q : List Int} (hp : rs[t]? = some p) (hq : rs[i]? = some q) (h : xgg (cf p col) (cf q col) = 0) : jn rs t i col = rs := by
 unfold jn
 rw [qr hp, qr hq, if_pos h]
theorem jn_go {rs : List (List Int)} {t i col : Nat} {p q : List Int} (hp : rs[t]? = some p) (hq : rs[i]? = some q) (h : ¬ xgg (cf p col) (cf q col) = 0) : jn rs t i col =
  (rs.set t (mx2 (xgx (cf p col) (cf q col)) p (xgy (cf p col) (cf q col)) q)).set i (mx2 (-((cf q col).tdiv (xgg (cf p col) (cf q col)))) p ((cf p col).tdiv (xgg (cf p col) (cf q col))) q) := by
 unfold jn
 rw [qr hp, qr hq, if_neg h]
def jns (rs : List (List Int)) (t col : Nat) : Nat → List (List Int)
 | 0 => rs
 | n + 1 => jn (jns rs t col n) t (t + 1 + n) col
def rd (rs : List (List Int)) (t i col : Nat) : List (List Int) := rs.set i (mx2 1 (rs.getD i []) (-(cf (rs.getD i []) col / cf (rs.getD t []) col)) (rs.getD t []))
def rds (rs : List (List Int)) (t col : Nat) : Nat → List (List Int)
 | 0 => rs
 | n + 1 => rd (rds rs t col n) t n col
def hsg (rs : List (List Int)) (t col : Nat) : List (List Int) := if cf (rs.getD t []) col < 0 then rs.set t (mx2 (-1) (rs.getD t []) 0 (rs.getD t [])) else rs
structure HS where
 rows : List (List Int)
 top : Nat
def hjs (s : HS) (col : Nat) : List (List Int) := jns s.rows s.top col (s.rows.length - (s.top + 1))
def hcol (s : HS) (col : Nat) : HS := if cf ((hjs s col).getD s.top []) col = 0 then ⟨hjs s col, s.top⟩ else ⟨rds (hsg (hjs s col) s.top col) s.top col s.top, s.top + 1⟩
def hred (s : HS) : Nat → HS
 | 0 => s
 | c + 1 => if (hred s c).top < (hred s c).rows.length then hcol (hred s c) c else hred s c
def row0 (C R : Nat) (L : List Int) (i : Nat) : List Int := (List.range (C + R)).map fun k => if k < C then cf L (i * C + k) else if k = C + i then 1 else 0
def qH (C R : Nat) (L : List Int) (n : Nat) : List (List Int) := (List.range n).map (row0 C R L)
def hrm (R C : Nat) (L : List Int) : HS := hred ⟨qH C R L R, 0⟩ C
/-! ### sizes -/
theorem jn_len (rs : List (List Int)) (t i col : Nat) : (jn rs t i col).length = rs.length := by unfold jn; split <;> simp
theorem qj (rs : List (List Int)) (t col : Nat) : ∀ n, (jns rs t col n).length = rs.length
 | 0 => rfl
 | n + 1 => (jn_len _ _ _ _).trans (qj rs t col n)
theorem rd_len (rs : List (List Int)) (t i col : Nat) : (rd rs t i col).length = rs.length := by unfold rd; simp
theorem jf (rs : List (List Int)) (t col : Nat) : ∀ n, (rds rs t col n).length = rs.length
 | 0 => rfl
 | n + 1 => (rd_len _ _ _ _).trans (jf rs t col n)
theorem vU (rs : List (List Int)) (t col : Nat) : (hsg rs t col).length = rs.length := by unfold hsg; split <;> simp
theorem jk {rs : List (List Int)} {t col j : Nat} (hj : j < t) : ∀ n, (jns rs t col n)[j]? = rs[j]?
  | 0 => rfl
  | n + 1 => by
    show (jn _ _ _ _)[j]? = _
    unfold jn
    split
    · exact jk hj n
    · rw [List.getElem?_set_ne (by omega), List.getElem?_set_ne (by omega)]; exact jk hj n
theorem bc {rs : List (List Int)} {t col : Nat} : ∀ {n j : Nat}, t + 1 + n ≤ j → (jns rs t col n)[j]? = rs[j]?
  | 0, _, _ => rfl
  | n + 1, j, hj => by
    show (jn _ _ _ _)[j]? = _
    unfold jn
    split
    · exact bc (by omega)
    · rw [List.getElem?_set_ne (by omega), List.getElem?_set_ne (by omega)]; exact bc (by omega)
theorem aH {rs : List (List Int)} {t col : Nat} : ∀ {n j : Nat}, n ≤ j → (rds rs t col n)[j]? = rs[j]?
  | 0, _, _ => rfl
  | n + 1, j, hj => by
    show (rd _ _ _ _)[j]? = _
    unfold rd
    rw [List.getElem?_set_ne (by omega)]; exact aH (by omega)
theorem jD {α : Type} {P : α → Prop} {l : List α} {i : Nat} {x : α} (h : ∀ r ∈ l, P r) (hx : P x) : ∀ r ∈ l.set i x, P r := fun r hr => by
 rcases List.mem_or_eq_of_mem_set hr with h1 | rfl
 ·exact h r h1
 ·exact hx
theorem qe {P : List Int → Prop} {l : List (List Int)} {i : Nat} (h : ∀ r ∈ l, P r) (hi : i < l.length) : P (l.getD i []) := by
 rw [List.getD, List.getElem?_eq_getElem hi]; exact h _ (List.getElem_mem _)
theorem jn_row {rs : List (List Int)} {t i col W : Nat} (h : ∀ r ∈ rs, r.length = W) (ht : t < rs.length) : ∀ r ∈ jn rs t i col, r.length = W := by
 unfold jn
 split
 ·exact h
 ·have e := qe h ht
  exact jD (jD h (by rw [aJ, e])) (by rw [aJ, e])
theorem xl {rs : List (List Int)} {t col W : Nat} (h : ∀ r ∈ rs, r.length = W) (ht : t < rs.length) : ∀ n, ∀ r ∈ jns rs t col n, r.length = W
 | 0 => h
 | n + 1 => jn_row (xl h ht n) (by rw [qj]; exact ht)
theorem bS {rs : List (List Int)} {t col W : Nat} (h : ∀ r ∈ rs, r.length = W) (ht : t < rs.length) : ∀ n, n ≤ t → ∀ r ∈ rds rs t col n, r.length = W
  | 0, _ => h
  | n + 1, hn => by
    have ih := bS h ht (col := col) n (by omega)
    exact jD ih (by rw [aJ]; exact qe ih (by rw [jf]; omega))
theorem bf {rs : List (List Int)} {t col W : Nat} (h : ∀ r ∈ rs, r.length = W) (ht : t < rs.length) : ∀ r ∈ hsg rs t col, r.length = W := by
 unfold hsg
 split
 ·exact jD h (by rw [aJ]; exact qe h ht)
 ·exact h
theorem hcol_len (s : HS) (col : Nat) : (hcol s col).rows.length = s.rows.length := by
 unfold hcol hjs
 split
 ·exact qj _ _ _ _
 ·show (rds _ _ _ _).length = _
  rw [jf, vU, qj]
theorem hcol_top (s : HS) (col : Nat) (h : s.top < s.rows.length) : (hcol s col).top ≤ s.rows.length := by
 unfold hcol
 split
 ·show s.top ≤ _; omega
 ·show s.top + 1 ≤ _; omega
theorem hcol_row {s : HS} {W : Nat} (col : Nat) (h : s.top < s.rows.length) (hr : ∀ r ∈ s.rows, r.length = W) : ∀ r ∈ (hcol s col).rows, r.length = W := by
 unfold hcol hjs
 split
 ·exact xl hr h _
 ·exact bS (bf (xl hr h _) (by rw [qj]; exact h)) (by rw [vU, qj]; exact h) _ (Nat.le_refl _)
/-! ### how great the numbers get -/
theorem div_nw {a b : Int} (hb : 0 < b) {K : Nat} (h : (List.length (zA a.natAbs)) ≤ K) : (List.length (zA (a / b).natAbs)) ≤ K := by
 refine Nat.le_trans (ze ?_) h
 have h1 : 0 ≤ a ∨ a < 0 := by omega
 rcases h1 with h1 | h1
 ·have h2 := Int.ediv_le_self (b := b) (a := a) h1
  have h3 := Int.ediv_nonneg h1 (by omega : 0 ≤ b)
  omega
 ·have h2 : a ≤ a / b := by
   rw [Int.le_ediv_iff_mul_le hb]
   have := Int.mul_le_mul_of_nonneg_left (show (1 : Int) ≤ b by omega) (show 0 ≤ -a by omega)
   rw [Int.neg_mul, Int.neg_mul, Int.mul_one] at this
   omega
  have h3 : a / b < 0 := Int.ediv_neg_of_neg_of_pos h1 hb
  omega
theorem mx2_neg {p : List Int} {K : Nat} (h : Bd p K) : Bd (mx2 (-1) p 0 p) K := fun k => by
 unfold mx2
 rw [xF]
 split
 ·rw [show -1 * cf p k + 0 * cf p k = -(cf p k) by omega, Int.natAbs_neg]; exact h k
 ·rw [Int.natAbs_zero, zF]; exact Nat.zero_le _
theorem jn_bd {rs : List (List Int)} {t i col P K : Nat} (ht : Bd (rs.getD t []) P) (hi : Bd (rs.getD i []) K) (h : ∀ r ∈ rs, Bd r P) : ∀ r ∈ jn rs t i col, Bd r (P + (K + 3)) := by
 unfold jn
 split
 ·exact fun r hr => (h r hr).mono (by omega)
 ·refine jD (jD (fun r hr => (h r hr).mono (by omega)) ?_) ?_
  ·exact Bd_mx2 (xgx_nw _ _ (hi col)) ht (xgy_nw _ _ (ht col)) hi (by omega) (by omega)
  ·refine Bd_mx2 (A := K) (B := P) ?_ ht ?_ hi (by omega) (by omega)
   ·rw [Int.natAbs_neg]; exact Nat.le_trans (vu _ _) (hi col)
   ·exact Nat.le_trans (vu _ _) (ht col)
theorem vW {rs : List (List Int)} {K : Nat} (h : ∀ r ∈ rs, Bd r K) (i : Nat) : Bd (rs.getD i []) K := by
 rcases Nat.lt_or_ge i rs.length with h1 | h1
 ·exact qe h h1
 ·rw [List.getD, List.getElem?_eq_none h1]; exact Bd.nil K
theorem ck {rs : List (List Int)} {t col K : Nat} (h : ∀ r ∈ rs, Bd r K) : ∀ n, ∀ r ∈ jns rs t col n, Bd r (K + n * (K + 3))
  | 0 => fun r hr => (h r hr).mono (by omega)
  | n + 1 => fun r hr => by
    have ih := ck (t := t) (col := col) h n
    have e : (jns rs t col n).getD (t + 1 + n) [] = rs.getD (t + 1 + n) [] := by rw [List.getD, bc (Nat.le_refl _)]; rfl
    refine (jn_bd (vW ih t) (by rw [e]; exact vW h _) ih r hr).mono ?_
    rw [Nat.succ_mul]; omega
theorem hsg_bd {rs : List (List Int)} {t col K : Nat} (h : ∀ r ∈ rs, Bd r K) : ∀ r ∈ hsg rs t col, Bd r K := by
 unfold hsg
 split
 ·exact jD h (mx2_neg (vW h t))
 ·exact h
theorem rds_bd {rs : List (List Int)} {t col K P : Nat} (hb : 0 < cf (rs.getD t []) col) (ht : Bd (rs.getD t []) P) (hl : ∀ i, i < t → Bd (rs.getD i []) K) (hP : ∀ r ∈ rs, Bd r P) (hKP : K ≤ P) : ∀ n, n ≤ t → ∀ r ∈ rds rs t col n, Bd r (P + K + 2)
  | 0, _ => fun r hr => (hP r hr).mono (by omega)
  | n + 1, hn => by
    have ih := rds_bd hb ht hl hP hKP n (by omega)
    have e1 : (rds rs t col n).getD t [] = rs.getD t [] := by rw [List.getD, aH (by omega)]; rfl
    have e2 : (rds rs t col n).getD n [] = rs.getD n [] := by rw [List.getD, aH (Nat.le_refl _)]; rfl
    show ∀ r ∈ rd _ _ _ _, _
    unfold rd
    rw [e1, e2]
    have hn2 := hl n (by omega)
    have h1 : (List.length (zA (1 : Int).natAbs)) ≤ 1 := zz (by decide)
    exact jD ih (Bd_mx2 (A := 1) (B := K) h1 hn2 (by rw [Int.natAbs_neg]; exact div_nw hb (hn2 col)) ht (by omega) (by omega))
theorem hcol_bd {s : HS} {K : Nat} (col : Nat) (ht : s.top < s.rows.length) (h : ∀ r ∈ s.rows, Bd r K) : ∀ r ∈ (hcol s col).rows, Bd r ((K + 3) * (s.rows.length + 2) - 3) := by
 have hm : (K + 3) * (s.rows.length + 2) = K * s.rows.length + 2 * K + 3 * s.rows.length + 6 := by rw [Nat.add_mul, Nat.mul_add, Nat.mul_add]; omega
 have hm2 : (s.rows.length - (s.top + 1)) * (K + 3) ≤ s.rows.length * (K + 3) := Nat.mul_le_mul_right _ (by omega)
 have hm3 : s.rows.length * (K + 3) = K * s.rows.length + 3 * s.rows.length := by rw [Nat.mul_add, Nat.mul_comm s.rows.length K, Nat.mul_comm s.rows.length 3]
 have hj := ck (t := s.top) (col := col) h (s.rows.length - (s.top + 1))
 unfold hcol hjs
 split
 ·exact fun r hr => (hj r hr).mono (by omega)
 ·rename_i h0
  have hg := hsg_bd (t := s.top) (col := col) hj
  have htj : s.top < (jns s.rows s.top col (s.rows.length - (s.top + 1))).length := by rw [qj]; exact ht
  have hpos : 0 < cf ((hsg (jns s.rows s.top col (s.rows.length - (s.top + 1))) s.top col).getD s.top []) col := by
   unfold hsg
   split
   ·rename_i h1
    rw [List.getD, List.getElem?_set_self htj]
    show 0 < cf (mx2 _ _ _ _) col
    rw [vP rfl]; omega
   ·rename_i h1; omega
  have hlow : ∀ i, i < s.top → Bd ((hsg (jns s.rows s.top col (s.rows.length - (s.top + 1))) s.top col).getD i []) K := fun i hi => by
   have e : (hsg (jns s.rows s.top col (s.rows.length - (s.top + 1))) s.top col).getD i [] = s.rows.getD i [] := by
    unfold hsg
    split
    ·rw [List.getD, List.getElem?_set_ne (by omega), jk hi]; rfl
    ·rw [List.getD, jk hi]; rfl
   rw [e]; exact vW h i
  exact fun r hr => (rds_bd hpos (vW hg _) hlow hg (by omega) s.top (Nat.le_refl _) r hr).mono (by omega)
theorem hsg_pos {rs : List (List Int)} {t col : Nat} {p : List Int} (hp : rs[t]? = some p) (h0 : ¬ cf p col = 0) : 0 < cf ((hsg rs t col).getD t []) col := by
 unfold hsg
 rw [qr hp]
 split
 ·rw [List.getD, List.getElem?_set_self (lt_of_some hp)]
  show 0 < cf (mx2 _ _ _ _) col
  rw [vP rfl]; omega
 ·rw [qr hp]; omega
structure HOk (R W K : Nat) (s : HS) : Prop where
 len : s.rows.length = R
 top : s.top ≤ R
 row : ∀ r ∈ s.rows, r.length = W
 bd : ∀ r ∈ s.rows, Bd r K
theorem vw {R W K : Nat} {s : HS} (h : HOk R W K s) : ∀ c, HOk R W ((K + 3) * (R + 2) ^ c - 3) (hred s c)
  | 0 => ⟨h.len, h.top, h.row, fun r hr => (h.bd r hr).mono (by rw [Nat.pow_zero]; omega)⟩
  | c + 1 => by
    have ih := vw h c
    have hp : 1 ≤ (R + 2) ^ c := Nat.one_le_pow _ _ (by omega)
    have hp2 := Nat.mul_le_mul_left (K + 3) hp
    have e : (K + 3) * (R + 2) ^ (c + 1) = (K + 3) * (R + 2) ^ c * (R + 2) := by rw [Nat.pow_succ, Nat.mul_assoc]
    have e2 : (K + 3) * (R + 2) ^ c ≤ (K + 3) * (R + 2) ^ c * (R + 2) := Nat.le_mul_of_pos_right _ (by omega)
    show HOk R W _ (if _ then _ else _)
    split
    · rename_i ht
      refine ⟨(hcol_len _ _).trans ih.len, ?_, hcol_row c ht ih.row, fun r hr => ?_⟩
      · have := hcol_top (hred s c) c ht; rwa [ih.len] at this
      · have := hcol_bd c ht ih.bd r hr
        rw [ih.len] at this
        refine this.mono ?_
        rw [e, show (K + 3) * (R + 2) ^ c - 3 + 3 = (K + 3) * (R + 2) ^ c by omega]
        exact Nat.le_refl _
    · exact ⟨ih.len, ih.top, ih.row, fun r hr => (ih.bd r hr).mono (by omega)⟩
theorem hred_stop {R W K : Nat} {s : HS} (h : HOk R W K s) {c : Nat} : ∀ {C : Nat}, c ≤ C → ¬ (c < C ∧ (hred s c).top < R) → hred s C = hred s c
  | C, hc, hn => by
    by_cases e : c = C
    · rw [e]
    · have ht : ¬ (hred s c).top < R := fun h2 => hn ⟨by omega, h2⟩
      have key : ∀ n, hred s (c + n) = hred s c := by
        intro n
        induction n with
        | zero => rfl
        | succ n ih =>
          show (if (hred s (c + n)).top < (hred s (c + n)).rows.length then hcol (hred s (c + n)) (c + n) else hred s (c + n)) = hred s c
          rw [ih, (vw h c).len, if_neg ht]
      have := key (C - c)
      rwa [show c + (C - c) = C by omega] at this
theorem wB (C R : Nat) (L : List Int) (i : Nat) : (row0 C R L i).length = C + R := by unfold row0; rw [List.length_map, List.length_range]
theorem dt (C R : Nat) (L : List Int) (n : Nat) : (qH C R L n).length = n := by unfold qH; rw [List.length_map, List.length_range]
theorem rows0_succ (C R : Nat) (L : List Int) (n : Nat) : qH C R L n ++ [row0 C R L n] = qH C R L (n + 1) := by unfold qH; rw [List.range_succ, List.map_append]; rfl
theorem row0_bd {C R K : Nat} {L : List Int} (h : Bd L K) (i : Nat) : Bd (row0 C R L i) (K + 1) := fun k => by
 unfold row0
 rw [xF]
 have h1 : (List.length (zA (1 : Int).natAbs)) ≤ 1 := zz (by decide)
 have h0 : (List.length (zA (0 : Int).natAbs)) ≤ 0 := by rw [Int.natAbs_zero, zF]; exact Nat.le_refl _
 have := h (i * C + k)
 (repeat' split) <;> omega
theorem vJ {R C K : Nat} {L : List Int} (h : Bd L K) : HOk R (C + R) (K + 1) ⟨qH C R L R, 0⟩ where
 len := dt _ _ _ _
 top := Nat.zero_le _
 row r hr := by
  obtain ⟨i, _, rfl⟩ := List.mem_map.1 hr
  exact wB _ _ _ _
 bd r hr := by
  obtain ⟨i, _, rfl⟩ := List.mem_map.1 hr
  exact row0_bd h i
theorem row0_at {C R : Nat} {L : List Int} {i k : Nat} (h : k < C) : ((row0 C R L i).map nz)[k]? = some (nz (cf L (i * C + k))) := by
 rw [List.getElem?_map]
 unfold row0
 rw [List.getElem?_map, List.getElem?_range (by omega)]
 show some (nz (if k < C then _ else _)) = _
 rw [if_pos h]
theorem row0_fill {C R : Nat} {L : List Int} {i n k : Nat} (hi : i < R) (hk : k = C) (hn : n = C + R) : ((fill ((row0 C R L i).map nz) k (false, [])).set (C + i) (nz 1)).take n = (row0 C R L i).map nz := by
 subst hk
 have hl : ((row0 k R L i).map nz).length = k + R := by rw [List.length_map, wB]
 refine List.ext_getElem? fun j => ?_
 rcases Nat.lt_or_ge j (k + R) with hj | hj
 ·rw [List.getElem?_take_of_lt (by omega)]
  have hr : ((row0 k R L i).map nz)[j]? = some (nz (if j < k then cf L (i * k + j) else if j = k + i then 1 else 0)) := by
   rw [List.getElem?_map]
   unfold row0
   rw [List.getElem?_map, List.getElem?_range hj]; rfl
  rw [hr]
  by_cases e : j = k + i
  ·subst e
   rw [List.getElem?_set_self (by rw [aQ _ _ _ (by omega)]; omega), if_neg (by omega), if_pos rfl]
  ·rw [List.getElem?_set_ne (fun h => e h.symm)]
   unfold fill
   by_cases h2 : j < k
   ·rw [List.getElem?_append_left (by rw [List.length_take]; omega), List.getElem?_take_of_lt h2, hr]
   ·rw [List.getElem?_append_right (by rw [List.length_take]; omega), List.length_take, List.getElem?_replicate, if_pos (by omega), if_neg h2, if_neg e, nz_zero]
 ·rw [List.getElem?_eq_none (by rw [List.length_take]; omega), List.getElem?_eq_none (by omega)]
theorem rd_go {rs : List (List Int)} {t i col : Nat} {r b : List Int} (hr : rs[i]? = some r) (hb : rs[t]? = some b) : rd rs t i col = rs.set i (mx2 1 r (-(cf r col / cf b col)) b) := by unfold rd; rw [qr hr, qr hb]
/-! ### parts of rows, put together -/
def qh (lo hi : Nat) (rs : List (List Int)) : List Int := rs.flatMap fun r => (r.take hi).drop lo
theorem cz {lo hi i : Nat} {rs : List (List Int)} {r : List Int} (h : rs[i]? = some r) : qh lo hi (rs.take (i + 1)) = qh lo hi (rs.take i) ++ (r.take hi).drop lo := by
 unfold qh
 rw [List.take_add_one, h, List.flatMap_append]
 simp
theorem eM {lo hi W : Nat} (h1 : lo ≤ hi) (h2 : hi ≤ W) : ∀ {rs : List (List Int)}, (∀ r ∈ rs, r.length = W) → (qh lo hi rs).length = rs.length * (hi - lo)
  | [], _ => by simp [qh]
  | r :: rs, h => by
    have ih := eM h1 h2 (rs := rs) fun r hr => h r (List.mem_cons_of_mem _ hr)
    have hr := h r List.mem_cons_self
    show ((r.take hi).drop lo ++ qh lo hi rs).length = _
    rw [List.length_append, ih, List.length_drop, List.length_take, List.length_cons, Nat.succ_mul]
    omega
theorem eL {lo hi W : Nat} {rs : List (List Int)} (h1 : lo ≤ hi) (h2 : hi ≤ W) (h : ∀ r ∈ rs, r.length = W) : qh lo hi rs = tab (rs.length * (hi - lo)) (hi - lo) fun i k => cf (rs.getD i []) (lo + k) := by
  have key : ∀ n, n ≤ rs.length → qh lo hi (rs.take n) = tab (n * (hi - lo) + 0) (hi - lo) fun i k => cf (rs.getD i []) (lo + k) := by
    intro n
    induction n with
    | zero => intro _; simp [qh, tab]
    | succ n ih =>
      intro hn
      have hr := List.getElem?_eq_getElem (show n < rs.length by omega)
      have hW := h rs[n] (List.getElem_mem _)
      rw [List.take_add_one, hr]
      show (rs.take n ++ [rs[n]]).flatMap _ = _
      rw [List.flatMap_append]
      show qh lo hi (rs.take n) ++ _ = _
      rw [ih (by omega), ← cE]
      have e : ∀ m, m ≤ hi - lo → tab (n * (hi - lo) + 0) (hi - lo) (fun i k => cf (rs.getD i []) (lo + k)) ++ ((rs[n].drop lo).take m) = tab (n * (hi - lo) + m) (hi - lo) fun i k => cf (rs.getD i []) (lo + k) := by
        intro m
        induction m with
        | zero => intro _; simp
        | succ m im =>
          intro hm
          rw [← cD _ (show m < hi - lo by omega), ← im (by omega), List.append_assoc, List.take_add_one, List.getElem?_drop, List.getElem?_eq_getElem (by omega)]
          congr 2
          show [_] = [_]
          rw [qr hr]
          unfold cf
          rw [List.getD, List.getElem?_eq_getElem (by omega)]; rfl
      have e2 := e (hi - lo) (Nat.le_refl _)
      rw [← e2]
      congr 1
      show (rs[n].take hi).drop lo ++ [] = _
      rw [List.append_nil, List.drop_take]
  have := key rs.length (Nat.le_refl _)
  rwa [List.take_length, Nat.add_zero] at this
end Go.Hn
