/- Words of quotients. No program here. -/
import Derived.Test.YtokhpacdgoebpaaNatS
import Derived.Laws.MathBits
namespace Go.Nt
theorem bitLen_le64 {x : Nat} (h : x < 18446744073709551616) : bitLen x ≤ 64 := by
  have h1 := (bitLen_spec x).2
  rcases Nat.lt_or_ge 64 (bitLen x) with h2 | h2
  · have h3 : x ≠ 0 := by intro e; subst e; simp [bitLen] at h2
    have h4 := h1 h3
    have h5 : 2 ^ 64 ≤ 2 ^ (bitLen x - 1) := Nat.pow_le_pow_right (by decide) (by omega)
    omega
  · exact h2
theorem bitLen_pos {x : Nat} (h : x ≠ 0) : 0 < bitLen x := by unfold bitLen; rw [if_neg h]; omega
/-- a word shifted up so far that its greatest bit is 1 -/
theorem lead {y s : Nat} (hy : y < 18446744073709551616) (h0 : y ≠ 0) (hs : s = 64 - bitLen y) : 9223372036854775808 ≤ y * 2 ^ s ∧ y * 2 ^ s < 18446744073709551616 := by
  have h1 := bitLen_spec y
  have h2 := bitLen_le64 hy
  have h3 := bitLen_pos h0
  have h4 := h1.2 h0
  constructor
  · have : 2 ^ (bitLen y - 1) * 2 ^ s ≤ y * 2 ^ s := Nat.mul_le_mul_right _ h4
    rw [← Nat.pow_add, show bitLen y - 1 + s = 63 by omega] at this
    exact this
  · have : y * 2 ^ s < 2 ^ bitLen y * 2 ^ s := Nat.mul_lt_mul_of_pos_right h1.1 (Nat.pow_pos (by decide))
    rw [← Nat.pow_add, show bitLen y + s = 64 by omega] at this
    exact this
/-- the guess of a half word -/
structure Gs (u u1 v1 v0 q r : Nat) : Prop where
  e : u = q * v1 + r
  le : (u * 4294967296 + u1) / (v1 * 4294967296 + v0) ≤ q
  q : q ≤ 4294967297
  r : r < 4294967296
structure Hv (u u1 v1 v0 : Nat) : Prop where
  a : 2147483648 ≤ v1
  b : v1 < 4294967296
  c : v0 < 4294967296
  d : u < v1 * 4294967296 + v0
  f : u1 < 4294967296
theorem Gs.start {u u1 v1 v0 : Nat} (h : Hv u u1 v1 v0) : Gs u u1 v1 v0 (u / v1) (u - u / v1 * v1) := by
  obtain ⟨h1, h2, h3, h4, h5⟩ := h
  have e1 := Nat.div_add_mod u v1
  have e2 := Nat.mod_lt u (show 0 < v1 by omega)
  rw [Nat.mul_comm] at e1
  refine ⟨by omega, ?_, ?_, by omega⟩
  · rw [Nat.le_div_iff_mul_le (by omega)]
    have h6 := Nat.div_mul_le_self (u * 4294967296 + u1) (v1 * 4294967296 + v0)
    generalize (u * 4294967296 + u1) / (v1 * 4294967296 + v0) = Q at *
    rw [Nat.mul_add, ← Nat.mul_assoc] at h6
    generalize Q * v1 = p at *
    generalize Q * v0 = p' at *
    omega
  · rcases Nat.lt_or_ge 4294967297 (u / v1) with h6 | h6
    · have : 4294967298 * v1 ≤ u / v1 * v1 := Nat.mul_le_mul_right _ h6
      omega
    · exact h6
theorem Gs.next {u u1 v1 v0 q r : Nat} (h : Hv u u1 v1 v0) (g : Gs u u1 v1 v0 q r) (hc : 4294967296 ≤ q ∨ 4294967296 * r + u1 < q * v0) :
    u = (q - 1) * v1 + (r + v1) ∧ (u * 4294967296 + u1) / (v1 * 4294967296 + v0) ≤ q - 1 ∧ q - 1 ≤ 4294967296 ∧ 1 ≤ q := by
  obtain ⟨h1, h2, h3, h4, h5⟩ := h
  obtain ⟨g1, g2, g3, g4⟩ := g
  have hq : 1 ≤ q := by
    rcases hc with hc | hc
    · omega
    · rcases Nat.eq_zero_or_pos q with h | h
      · subst h; omega
      · exact h
  have hlt : (u * 4294967296 + u1) / (v1 * 4294967296 + v0) < q := by
    rw [Nat.div_lt_iff_lt_mul (by omega), Nat.mul_add, ← Nat.mul_assoc]
    rcases hc with hc | hc
    · have h6 : 4294967296 * (v1 * 4294967296 + v0) ≤ q * (v1 * 4294967296 + v0) := Nat.mul_le_mul_right _ hc
      rw [Nat.mul_add q, ← Nat.mul_assoc] at h6
      omega
    · omega
  refine ⟨?_, by omega, by omega, hq⟩
  obtain ⟨k, rfl⟩ : ∃ k, q = k + 1 := ⟨q - 1, by omega⟩
  rw [Nat.succ_mul] at g1
  simp only [Nat.add_sub_cancel]
  omega
theorem Gs.exit {u u1 v1 v0 q r : Nat} (h : Hv u u1 v1 v0) (g : Gs u u1 v1 v0 q r) (hc : q * v0 ≤ 4294967296 * r + u1) : q = (u * 4294967296 + u1) / (v1 * 4294967296 + v0) := by
  obtain ⟨h1, h2, h3, h4, h5⟩ := h
  obtain ⟨g1, g2, g3, g4⟩ := g
  refine Nat.le_antisymm ?_ g2
  rw [Nat.le_div_iff_mul_le (by omega), Nat.mul_add, ← Nat.mul_assoc]
  omega
theorem Gs.exit2 {u u1 v1 v0 q r : Nat} (h : Hv u u1 v1 v0) (g1 : u = q * v1 + r) (g2 : (u * 4294967296 + u1) / (v1 * 4294967296 + v0) ≤ q) (g3 : q ≤ 4294967296) (hr : 4294967296 ≤ r) :
    q = (u * 4294967296 + u1) / (v1 * 4294967296 + v0) := by
  obtain ⟨h1, h2, h3, h4, h5⟩ := h
  refine Nat.le_antisymm ?_ g2
  rw [Nat.le_div_iff_mul_le (by omega), Nat.mul_add, ← Nat.mul_assoc]
  have : q * v0 ≤ 4294967296 * 4294967295 := Nat.mul_le_mul g3 (by omega)
  omega
theorem mul_bb {q v : Nat} (h1 : q < 4294967296) (h2 : v < 4294967296) : q * v < 18446744073709551616 := Nat.mul_lt_mul'' h1 h2
theorem wrapSub {a u p r : Nat} (h : a * 4294967296 + u = p + r) (hr : r < 18446744073709551616) (hp : u < 4294967296) :
    ((a * 4294967296 % 18446744073709551616 + u) % 18446744073709551616 + (18446744073709551616 - p % 18446744073709551616)) % 18446744073709551616 = r := by omega
theorem wrapAdd {q1 q0 : Nat} (h1 : q1 < 4294967296) (h0 : q0 < 4294967296) : (q1 * 4294967296 % 18446744073709551616 + q0) % 18446744073709551616 = q1 * 4294967296 + q0 := by omega
theorem divMul (t y : Nat) : t = t / y * y + t % y := by have := Nat.div_add_mod t y; rw [Nat.mul_comm] at this; omega
structure D64 (hi lo y s Y A U1 U0 v1 v0 : Nat) : Prop where
  ks : s ≤ 64
  yl : Y < 18446744073709551616
  un32 : hi * 2 ^ s % 18446744073709551616 ||| lo / 2 ^ (64 - s) = A
  al : A < 18446744073709551616
  kv1 : Y / 4294967296 = v1
  kv0 : Y % 4294967296 = v0
  u1 : lo * 2 ^ s % 18446744073709551616 / 4294967296 = U1
  u0 : lo * 2 ^ s % 18446744073709551616 % 4294967296 = U0
  hv : Hv A U1 v1 v0
  kY : v1 * 4294967296 + v0 = Y
  hv2 : Hv ((A * 4294967296 + U1) % Y) U0 v1 v0
  q1 : (A * 4294967296 + U1) / Y < 4294967296
  q0 : ((A * 4294967296 + U1) % Y * 4294967296 + U0) / Y < 4294967296
  r1 : (A * 4294967296 + U1) % Y < 18446744073709551616
  r0 : ((A * 4294967296 + U1) % Y * 4294967296 + U0) % Y < 18446744073709551616
  quo : (A * 4294967296 + U1) / Y * 4294967296 + ((A * 4294967296 + U1) % Y * 4294967296 + U0) / Y = (hi * 18446744073709551616 + lo) / y
  rem : ((A * 4294967296 + U1) % Y * 4294967296 + U0) % Y / 2 ^ s = (hi * 18446744073709551616 + lo) % y
theorem mkHv {u Y n : Nat} (h : u < Y) (h1 : 9223372036854775808 ≤ Y) (h2 : Y < 18446744073709551616) (h3 : n < 4294967296) : Hv u n (Y / 4294967296) (Y % 4294967296) :=
  ⟨by omega, by omega, by omega, by omega, h3⟩
theorem splitY (Y : Nat) : Y / 4294967296 * 4294967296 + Y % 4294967296 = Y := by omega
theorem d64 {hi lo y : Nat} (hlo : lo < 18446744073709551616) (hy : y < 18446744073709551616) (h : hi < y) :
    ∃ s Y A U1 U0 v1 v0, s = 64 - bitLen y ∧ Y = y * 2 ^ s ∧ D64 hi lo y s Y A U1 U0 v1 v0 := by
  obtain ⟨s, hs⟩ : ∃ s, s = 64 - bitLen y := ⟨_, rfl⟩
  have hl := lead hy (by omega) hs
  have hs64 : s ≤ 64 := by omega
  have hp : 0 < 2 ^ s := Nat.pow_pos (by decide)
  have hd : lo / 2 ^ (64 - s) < 2 ^ s := by
    rw [Nat.div_lt_iff_lt_mul (Nat.pow_pos (by decide)), Nat.mul_comm, two64 hs64]; exact hlo
  have hsw := shl_word (d := hi) hs64 hd
  have h1 : hi * 2 ^ s + 2 ^ s ≤ y * 2 ^ s := by rw [← Nat.succ_mul]; exact Nat.mul_le_mul_right _ h
  have h32 : hi * 2 ^ s % 18446744073709551616 ||| lo / 2 ^ (64 - s) = lo / 2 ^ (64 - s) + hi * 2 ^ s := by
    rw [Nat.or_comm]
    refine hsw.1.trans (Nat.mod_eq_of_lt ?_)
    unfold W; omega
  obtain ⟨Y, hY⟩ : ∃ Y, Y = y * 2 ^ s := ⟨_, rfl⟩
  have hlo2 : lo * 2 ^ s / 18446744073709551616 = lo / 2 ^ (64 - s) := by
    have := two64 hs64
    rw [show (18446744073709551616 : Nat) = W from rfl, ← this, Nat.mul_div_mul_right _ _ hp]
  have eN : (hi * 18446744073709551616 + lo) * 2 ^ s = (lo / 2 ^ (64 - s) + hi * 2 ^ s) * 18446744073709551616 + lo * 2 ^ s % 18446744073709551616 := by
    have := Nat.div_add_mod (lo * 2 ^ s) 18446744073709551616
    rw [hlo2] at this
    rw [Nat.add_mul, Nat.mul_right_comm, Nat.add_mul]; omega
  have eq1 : (hi * 18446744073709551616 + lo) * 2 ^ s / Y = (hi * 18446744073709551616 + lo) / y := by rw [hY, Nat.mul_div_mul_right _ _ hp]
  have er1 : (hi * 18446744073709551616 + lo) * 2 ^ s % Y = (hi * 18446744073709551616 + lo) % y * 2 ^ s := by rw [hY, Nat.mul_mod_mul_right]
  rw [eN] at eq1 er1
  rw [← hY] at hl h1
  obtain ⟨A, hA⟩ : ∃ A, A = lo / 2 ^ (64 - s) + hi * 2 ^ s := ⟨_, rfl⟩
  rw [← hA] at h32 eq1 er1
  have hAY : A < Y := by omega
  have hn0 : lo * 2 ^ s % 18446744073709551616 < 18446744073709551616 := Nat.mod_lt _ (by decide)
  obtain ⟨n0, hn⟩ : ∃ n0, n0 = lo * 2 ^ s % 18446744073709551616 := ⟨_, rfl⟩
  rw [← hn] at eq1 er1 hn0
  have hT : (A * 4294967296 + n0 / 4294967296) % Y < Y := Nat.mod_lt _ (by omega)
  have eT := Nat.div_add_mod (A * 4294967296 + n0 / 4294967296) Y
  have e3 : A * 18446744073709551616 + n0 = (A * 4294967296 + n0 / 4294967296) % Y * 4294967296 + n0 % 4294967296 + Y * ((A * 4294967296 + n0 / 4294967296) / Y * 4294967296) := by
    rw [← Nat.mul_assoc]; omega
  rw [e3, Nat.add_mul_div_left _ _ (by omega)] at eq1
  rw [e3, Nat.add_mul_mod_self_left] at er1
  have hq1 : (A * 4294967296 + n0 / 4294967296) / Y < 4294967296 := by
    rw [Nat.div_lt_iff_lt_mul (by omega)]; omega
  have hq0 : ((A * 4294967296 + n0 / 4294967296) % Y * 4294967296 + n0 % 4294967296) / Y < 4294967296 := by
    rw [Nat.div_lt_iff_lt_mul (by omega)]; omega
  have hr0 := Nat.mod_lt ((A * 4294967296 + n0 / 4294967296) % Y * 4294967296 + n0 % 4294967296) (by omega : Y > 0)
  have b0 : n0 % 4294967296 < 4294967296 := Nat.mod_lt _ (by decide)
  have b1 : n0 / 4294967296 < 4294967296 := by rw [Nat.div_lt_iff_lt_mul (by decide)]; exact hn0
  refine ⟨s, Y, A, n0 / 4294967296, n0 % 4294967296, Y / 4294967296, Y % 4294967296, hs, hY, ⟨hs64, hl.2, h32, Nat.lt_trans hAY hl.2, rfl, rfl, by rw [hn], by rw [hn], mkHv hAY hl.1 hl.2 b1, splitY Y, mkHv hT hl.1 hl.2 b0, hq1, hq0, Nat.lt_trans hT hl.2, Nat.lt_trans hr0 hl.2, ?_, ?_⟩⟩
  · rw [← eq1, Nat.add_comm]
  · rw [er1, Nat.mul_div_cancel _ hp]
/-! ### division by a word -/
theorem smallStart (A Q j : Nat) : words A ++ List.replicate j 0 = mix ((List.length (words A))) A Q ((List.length (words A))) ++ List.replicate j 0 := by
  congr 1
  unfold mix
  rw [Nat.sub_self]
  conv => lhs; rw [words_wordsN]
  simp [wordsN]
theorem getD_app {xs ys : List Nat} {i : Nat} (h : i < xs.length) : (xs ++ ys).getD i 0 = xs.getD i 0 := by
  rw [List.getD_eq_getElem?_getD, List.getElem?_append_left h, ← List.getD_eq_getElem?_getD]
theorem mix_low {k N' N m j : Nat} (h : j < k) : (mix k N' N m).getD j 0 = dig N' j := by
  unfold mix; rw [getD_app (by rw [wordsN_len]; exact h), wordsN_getD h]
theorem mix_down {A Q m j k d : Nat} (hk : 0 < k) (hm : k ≤ m) (hd : d = dig Q (k - 1)) : (mix k A Q m ++ List.replicate j 0).set (k - 1) d = mix (k - 1) A Q m ++ List.replicate j 0 := by
  obtain ⟨i, rfl⟩ : ∃ i, k = i + 1 := ⟨k - 1, by omega⟩
  simp only [Nat.add_sub_cancel] at *
  rw [List.set_append_left _ _ (by rw [mix_len hm]; omega)]
  congr 1
  unfold mix
  rw [List.set_append_left _ _ (by rw [wordsN_len]; omega), wordsN_succ, List.set_append_right _ _ (by rw [wordsN_len]; exact Nat.le_refl _), wordsN_len, Nat.sub_self, List.set_cons_zero, hd]
  have : m - i = (m - (i + 1)) + 1 := by omega
  rw [this, wordsN, Nat.div_div_eq_div_mul, ← Nat.pow_succ]
  simp [dig]
theorem quo_word {r d x : Nat} (hx : 0 < x) (h : r < x) (hd : d < 18446744073709551616) : (r * 18446744073709551616 + d) / x < 18446744073709551616 := by
  rw [Nat.div_lt_iff_lt_mul hx]; omega
theorem small_step {A x k : Nat} (hx : 0 < x) (hk : 0 < k) : (A / W ^ k % x * 18446744073709551616 + dig A (k - 1)) / x = dig (A / x) (k - 1) ∧ (A / W ^ k % x * 18446744073709551616 + dig A (k - 1)) % x = A / W ^ (k - 1) % x := by
  have e := div_pow_succ A k hk
  have hd := dig_lt A (k - 1)
  have h1 := Nat.div_add_mod (A / W ^ k) x
  have h2 := Nat.mod_lt (A / W ^ k) hx
  have e2 : A / W ^ (k - 1) = (A / W ^ k % x * 18446744073709551616 + dig A (k - 1)) + x * (18446744073709551616 * (A / W ^ k / x)) := by
    rw [e, Nat.mul_left_comm]
    generalize x * (A / W ^ k / x) = p at *
    unfold W at *
    omega
  constructor
  · rw [dig_def (A / x), Nat.div_div_eq_div_mul, Nat.mul_comm x, ← Nat.div_div_eq_div_mul, e2, Nat.add_mul_div_left _ _ hx, show W = 18446744073709551616 from rfl, Nat.add_mul_mod_self_left]
    symm
    apply Nat.mod_eq_of_lt
    exact quo_word hx h2 hd
  · rw [e2, Nat.add_mul_mod_self_left]
theorem smallEnd {A x j n : Nat} (hn : n = (List.length (words A))) : ((mix 0 A (A / x) ((List.length (words A))) ++ List.replicate j 0).drop 0).take n = wordsN ((List.length (words A))) (A / x) := by
  subst hn
  rw [List.drop_zero, List.take_left' (by rw [mix_len (Nat.zero_le _)])]
  simp [mix, wordsN]
theorem words_quo (A x : Nat) : words (val (wordsN ((List.length (words A))) (A / x))) = words (A / x) := words_val_wordsN (Nat.lt_of_le_of_lt (Nat.div_le_self _ _) (nw_lt A))
theorem normLe {A x B : Nat} (h : (List.length (words A)) ≤ B) : (List.length (words (A / x % W ^ (List.length (words A))))) ≤ B := Nat.le_trans (nw_mono (Nat.le_trans (Nat.mod_le _ _) (Nat.div_le_self _ _))) h
theorem of_words_nil {A : Nat} (h : words A = []) : A = 0 := by rw [← val_words A, h]; rfl
end Go.Nt
