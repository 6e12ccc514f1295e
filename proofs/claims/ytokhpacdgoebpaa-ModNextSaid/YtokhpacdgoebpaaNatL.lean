/- Long division: the guess, what is taken away, what is put back. No program here. -/
import Derived.Test.YtokhpacdgoebpaaNatD
namespace Go.Nt
set_option maxRecDepth 8000
/-- the guess of a word: at most one too great -/
def gss (u2 u1 u0 v1 v0 : Nat) : Nat := min (((u2 * 18446744073709551616 + u1) * 18446744073709551616 + u0) / (v1 * 18446744073709551616 + v0)) 18446744073709551615
structure Gw (u2 u1 u0 v1 v0 q r : Nat) : Prop where
  e : u2 * 18446744073709551616 + u1 = q * v1 + r
  le : gss u2 u1 u0 v1 v0 ≤ q
  q : q ≤ 18446744073709551615
  r : r < 36893488147419103232
theorem gss_max {u2 u1 u0 v1 v0 : Nat} (h : v1 < u2) (h0 : v0 < 18446744073709551616) (h1 : 0 < v1) : 18446744073709551615 = gss u2 u1 u0 v1 v0 := by
  unfold gss
  rw [Nat.min_eq_right]
  rw [Nat.le_div_iff_mul_le (by omega)]
  omega
theorem low_le {p p' t u0 w : Nat} (h : p * w + p' ≤ t * w + u0) (h0 : u0 < w) : p ≤ t := by
  apply Nat.le_of_lt_succ
  apply Nat.lt_of_mul_lt_mul_right (a := w)
  rw [Nat.succ_mul]; omega
theorem low_lt {p p' r u0 w : Nat} (h : r * w + u0 < p') : (p + r) * w + u0 < p * w + p' := by rw [Nat.add_mul]; omega
theorem Gw.same {u2 u1 u0 v1 v0 : Nat} (h : u2 = v1) (h1 : u1 < 18446744073709551616) (h2 : v1 < 18446744073709551616) : Gw u2 u1 u0 v1 v0 18446744073709551615 (u1 + v1) :=
  ⟨by omega, Nat.min_le_right _ _, Nat.le_refl _, by omega⟩
theorem Gw.start {u2 u1 u0 v1 v0 : Nat} (h : u2 < v1) (h1 : u1 < 18446744073709551616) (h0 : u0 < 18446744073709551616) (h2 : v1 < 18446744073709551616) :
    Gw u2 u1 u0 v1 v0 ((u2 * 18446744073709551616 + u1) / v1) ((u2 * 18446744073709551616 + u1) % v1) := by
  have e1 := divMul (u2 * 18446744073709551616 + u1) v1
  have e2 := Nat.mod_lt (u2 * 18446744073709551616 + u1) (show 0 < v1 by omega)
  refine ⟨e1, ?_, ?_, by omega⟩
  · refine Nat.le_trans (Nat.min_le_left _ _) ?_
    rw [Nat.le_div_iff_mul_le (by omega)]
    have h6 := Nat.div_mul_le_self ((u2 * 18446744073709551616 + u1) * 18446744073709551616 + u0) (v1 * 18446744073709551616 + v0)
    rw [Nat.mul_add, ← Nat.mul_assoc] at h6
    exact low_le h6 h0
  · exact Nat.le_of_lt_succ (quo_word (r := u2) (d := u1) (by omega) h h1)
theorem Gw.next {u2 u1 u0 v1 v0 q r : Nat} (h1 : 0 < v1) (h2 : v1 < 18446744073709551616) (g : Gw u2 u1 u0 v1 v0 q r) (hr : r < 18446744073709551616) (hc : r * 18446744073709551616 + u0 < q * v0) :
    Gw u2 u1 u0 v1 v0 (q - 1) (r + v1) ∧ 1 ≤ q := by
  obtain ⟨g1, g2, g3, g4⟩ := g
  have hq : 1 ≤ q := by
    rcases Nat.eq_zero_or_pos q with h | h
    · subst h; omega
    · exact h
  have hlt : ((u2 * 18446744073709551616 + u1) * 18446744073709551616 + u0) / (v1 * 18446744073709551616 + v0) < q := by
    rw [Nat.div_lt_iff_lt_mul (by omega), Nat.mul_add, ← Nat.mul_assoc, g1]
    exact low_lt hc
  refine ⟨⟨?_, ?_, by omega, by omega⟩, hq⟩
  · obtain ⟨k, rfl⟩ : ∃ k, q = k + 1 := ⟨q - 1, by omega⟩
    rw [Nat.succ_mul] at g1
    simp only [Nat.add_sub_cancel]
    omega
  · exact Nat.le_trans (Nat.min_le_left _ _) (by omega)
theorem Gw.exit {u2 u1 u0 v1 v0 q r : Nat} (h1 : 0 < v1) (g : Gw u2 u1 u0 v1 v0 q r) (hc : q * v0 ≤ r * 18446744073709551616 + u0) : q = gss u2 u1 u0 v1 v0 := by
  obtain ⟨g1, g2, g3, g4⟩ := g
  refine Nat.le_antisymm ?_ g2
  refine Nat.le_min.2 ⟨?_, g3⟩
  rw [Nat.le_div_iff_mul_le (by omega), Nat.mul_add, ← Nat.mul_assoc, g1]
  omega
theorem Gw.exit2 {u2 u1 u0 v1 v0 q r : Nat} (h1 : 0 < v1) (g : Gw u2 u1 u0 v1 v0 q r) (h0 : v0 < 18446744073709551616) (hr : 18446744073709551616 ≤ r) : q = gss u2 u1 u0 v1 v0 := by
  refine g.exit h1 ?_
  have : q * v0 ≤ 18446744073709551615 * 18446744073709551615 := Nat.mul_le_mul g.q (by omega)
  omega
theorem test_le {p r u0 : Nat} (hr : r < 18446744073709551616) (hu : u0 < 18446744073709551616) : (p / 18446744073709551616 < r ∨ p / 18446744073709551616 = r ∧ p % 18446744073709551616 ≤ u0) ↔ p ≤ r * 18446744073709551616 + u0 := by omega
/-! ### a multiple taken away, in place -/
theorem dig_nil (i : Nat) : dig 0 i = 0 := by unfold dig; simp
theorem mul_step0 (A x i : Nat) : dig A i * x + mcar 0 A x i = dig (A * x) i + W * mcar 0 A x (i + 1) := by
  have := mul_step_eq 0 A x i
  rw [dig_nil, Nat.zero_add, Nat.zero_add] at this; exact this
theorem take_word {x y c t u : Nat} (hx : x < W) (hy : y < W) (hc : c < W) (ht : t < W) (he : y * x + c = t + W * u) :
    (x * y % 18446744073709551616 + c + 0) % 18446744073709551616 = t ∧ x * y / 18446744073709551616 + (x * y % 18446744073709551616 + c + 0) / 18446744073709551616 = u ∧ u < 18446744073709551616 := by
  have hxy : x * y ≤ 18446744073709551615 * 18446744073709551615 := Nat.mul_le_mul (by unfold W at hx; omega) (by unfold W at hy; omega)
  rw [Nat.mul_comm y x] at he
  generalize x * y = p at *
  unfold W at *
  omega
theorem dig_mod {X i j : Nat} (h : j < i) : dig (X % W ^ i) j = dig X j := by
  obtain ⟨k, rfl⟩ : ∃ k, i = j + 1 + k := ⟨i - (j + 1), by omega⟩
  rw [dig, dig, Nat.add_assoc, Nat.pow_add, Nat.mod_mul_right_div_self, Nat.pow_add, Nat.pow_one, Nat.mod_mul_right_mod]
theorem pow_dvd' {i k : Nat} (h : i ≤ k) : W ^ k = W ^ i * W ^ (k - i) := by rw [← Nat.pow_add]; congr 1; omega
theorem dig_add_high {w k i : Nat} (h : i < k) : dig (w + W ^ k) i = dig w i := by
  rw [dig, dig, pow_dvd' (Nat.le_of_lt h), Nat.add_mul_div_left _ _ (pow_pos' i), pow_dvd' (show 1 ≤ k - i by omega), Nat.pow_one, Nat.add_mul_mod_self_left]
theorem bor_add_high {w p k i : Nat} (h : i ≤ k) : bor (w + W ^ k) p i = bor w p i := by
  unfold bor; rw [pow_dvd' h, Nat.add_mul_mod_self_left]
/-- the words from the o-th one on, less p -/
def wdiff (w p k : Nat) : Nat := (w + W ^ k - p) % W ^ k
theorem wd_dig {w p k i : Nat} (hp : p < W ^ k) (h : i < k) : (dig w i + W - dig p i - bor w p i) % W = dig (wdiff w p k) i := by
  have := sub_dig (p := w + W ^ k) (q := p) (by omega) i
  rw [dig_add_high h, bor_add_high (Nat.le_of_lt h)] at this
  rw [this, wdiff, dig_mod h]
theorem bor_top {w p k : Nat} (hw : w < W ^ k) (hp : p < W ^ k) : bor w p k = if w < p then 1 else 0 := by
  unfold bor; rw [Nat.mod_eq_of_lt hw, Nat.mod_eq_of_lt hp]
theorem win_div (N o D : Nat) : (N % W ^ o + W ^ o * D) / W ^ o = D := by
  rw [Nat.add_mul_div_left _ _ (pow_pos' o), Nat.div_eq_of_lt (Nat.mod_lt _ (pow_pos' o)), Nat.zero_add]
theorem win_mod (N o D : Nat) : (N % W ^ o + W ^ o * D) % W ^ o = N % W ^ o := by rw [Nat.add_mul_mod_self_left, Nat.mod_mod]
theorem winPut {N m o i d D : Nat} (h : o + i < m) (hd : d = dig D i) : (mix (o + i) (N % W ^ o + W ^ o * D) N m).set (o + i) d = mix (o + (i + 1)) (N % W ^ o + W ^ o * D) N m :=
  mix_set h rfl (by rw [hd, dig_add_pow _ _ _ _ (win_div _ _ _)])
theorem winEnd {N m o k D : Nat} (hm : o + k ≤ m) (hn : N / W ^ o < W ^ k) (hD : D < W ^ k) : mix (o + k) (N % W ^ o + W ^ o * D) N m = wordsN m (N % W ^ o + W ^ o * D) := by
  refine mix_end hm ?_
  rw [div_pow_add, div_pow_add, win_div, Nat.div_eq_of_lt hn, Nat.div_eq_of_lt hD]
theorem wdiff_lt (w p k : Nat) : wdiff w p k < W ^ k := Nat.mod_lt _ (pow_pos' k)
theorem mcar_top {v q k : Nat} (hv : v < W ^ k) (hq : q < W) : mcar 0 v q k = dig (v * q) k := by
  have h := mul_top (n := 0) (x := q) (pow_pos' k) hv
  rw [Nat.zero_add] at h
  rw [dig_def, h, Nat.mod_eq_of_lt (Nat.lt_of_le_of_lt (mcar_le _ _ _ _) hq)]
theorem vq_lt {v q k : Nat} (hv : v < W ^ k) (hq : q < W) : v * q < W ^ (k + 1) := by rw [Nat.pow_succ]; exact Nat.mul_lt_mul'' hv hq
theorem rowGet' {N' N m o i j : Nat} (h : i ≤ j) (hj : o + j < m) : (mix (o + i) N' N m).getD (o + j) 0 = dig (N / W ^ o) j := by
  rw [mix_getD (Nat.add_le_add_left h o) hj, dig_add_pow _ _ _ _ rfl]
theorem takeTop {w v q k : Nat} (hv : v < W ^ k) (hq : q < W) : (dig w k + W - mcar 0 v q k - bor w (v * q) k) % W = dig (wdiff w (v * q) (k + 1)) k := by
  rw [mcar_top hv hq]; exact wd_dig (vq_lt hv hq) (Nat.lt_succ_self k)
theorem takeBor {w v q k : Nat} (hv : v < W ^ k) (hq : q < W) (hw : w < W ^ (k + 1)) : (!decide ((if dig w k < mcar 0 v q k + bor w (v * q) k then 1 else 0) = 0)) = decide (w < v * q) := by
  rw [mcar_top hv hq, bor_succ, bor_top hw (vq_lt hv hq)]
  by_cases h : w < v * q <;> simp [h]
/-- what is put back -/
def wsum (w p k : Nat) : Nat := (w + p) % W ^ k
theorem wsum_lt (w p k : Nat) : wsum w p k < W ^ k := Nat.mod_lt _ (pow_pos' k)
theorem ws_dig {w p k i : Nat} (h : i < k) : (dig w i + dig p i + car w p i) % W = dig (wsum w p k) i := by rw [add_dig, wsum, dig_mod h]
theorem backTop {w v k : Nat} (hv : v < W ^ k) : (dig w k + car w v k) % W = dig (wsum w v (k + 1)) k := by
  have h := ws_dig (w := w) (p := v) (Nat.lt_succ_self k)
  rw [show dig v k = 0 from by rw [dig, Nat.div_eq_of_lt hv]; rfl, Nat.add_zero] at h
  exact h
end Go.Nt
