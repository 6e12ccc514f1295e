/- Long division: the guess is the word or one more. No program here. -/
import Derived.Test.YtokhpacdgoebpaaNatL
namespace Go.Nt
set_option maxRecDepth 8000
theorem top2 {v k : Nat} (hv : v < W ^ (k + 2)) : v / W ^ k = dig v (k + 1) * 18446744073709551616 + dig v k := by
  have h1 := div_succ v k
  have h2 : v / W ^ (k + 1) < W := by rw [Nat.div_lt_iff_lt_mul (pow_pos' _)]; rwa [Nat.mul_comm, ← Nat.pow_succ]
  rw [h1, dig_def v (k + 1), Nat.mod_eq_of_lt h2, Nat.mul_comm]
theorem top3 {w k : Nat} (hw : w < W ^ (k + 3)) : w / W ^ k = (dig w (k + 2) * 18446744073709551616 + dig w (k + 1)) * 18446744073709551616 + dig w k := by
  have h1 := div_succ w k
  rw [h1, top2 (k := k + 1) hw, Nat.mul_comm]
/-- the guess of long division -/
theorem guess_near {w v k : Nat} (hv : v < W ^ (k + 2)) (hv1 : W ^ (k + 1) ≤ v) (hw : w < v * W) :
    w / v ≤ gss (dig w (k + 2)) (dig w (k + 1)) (dig w k) (dig v (k + 1)) (dig v k) ∧ gss (dig w (k + 2)) (dig w (k + 1)) (dig w k) (dig v (k + 1)) (dig v k) ≤ w / v + 1 := by
  have hv0 : 0 < v := Nat.lt_of_lt_of_le (pow_pos' _) hv1
  have hw3 : w < W ^ (k + 3) := Nat.lt_of_lt_of_le hw (by rw [Nat.pow_succ W (k + 2)]; exact Nat.mul_le_mul_right _ (Nat.le_of_lt hv))
  unfold gss
  rw [← top3 hw3, ← top2 hv]
  have hR := pow_pos' k
  have hVW : W ≤ v / W ^ k := by rw [Nat.le_div_iff_mul_le hR, Nat.mul_comm, ← Nat.pow_succ]; exact hv1
  have hq : w / v < W := by rw [Nat.div_lt_iff_lt_mul hv0, Nat.mul_comm]; exact hw
  constructor
  · refine Nat.le_min.2 ⟨?_, by unfold W at hq; omega⟩
    rw [Nat.le_div_iff_mul_le (Nat.lt_of_lt_of_le (by decide) hVW), Nat.le_div_iff_mul_le hR, Nat.mul_assoc]
    exact Nat.le_trans (Nat.mul_le_mul_left _ (Nat.div_mul_le_self v _)) (Nat.div_mul_le_self w v)
  · generalize hg : min (w / W ^ k / (v / W ^ k)) 18446744073709551615 = g
    have hg1 : g ≤ w / W ^ k / (v / W ^ k) := hg ▸ Nat.min_le_left _ _
    have hg2 : g ≤ 18446744073709551615 := hg ▸ Nat.min_le_right _ _
    rcases Nat.eq_zero_or_pos g with h0 | h0
    · rw [h0]; exact Nat.zero_le _
    have h1 : g * (v / W ^ k) ≤ w / W ^ k := (Nat.le_div_iff_mul_le (Nat.lt_of_lt_of_le (by decide) hVW)).1 hg1
    have h2 : g * (v / W ^ k) * W ^ k ≤ w := Nat.le_trans (Nat.mul_le_mul_right _ h1) (Nat.div_mul_le_self w _)
    have h3 : v < (v / W ^ k + 1) * W ^ k := by
      have := Nat.div_add_mod v (W ^ k)
      have := Nat.mod_lt v hR
      rw [Nat.add_mul, Nat.mul_comm]; omega
    have h4 : (g - 1) * v ≤ w := by
      have h5 : (g - 1) * v ≤ (g - 1) * ((v / W ^ k + 1) * W ^ k) := Nat.mul_le_mul_left _ (Nat.le_of_lt h3)
      refine Nat.le_trans h5 (Nat.le_trans ?_ h2)
      rw [← Nat.mul_assoc]
      refine Nat.mul_le_mul_right _ ?_
      obtain ⟨t, rfl⟩ : ∃ t, g = t + 1 := ⟨g - 1, by omega⟩
      rw [Nat.add_sub_cancel, Nat.mul_add, Nat.succ_mul, Nat.mul_one]
      have : t ≤ v / W ^ k := Nat.le_trans (by unfold W; omega) hVW
      omega
    have := (Nat.le_div_iff_mul_le hv0).2 h4
    omega
/-- what is left of N when its quotient's words from the k-th one on are known -/
def left (N v k : Nat) : Nat := N % W ^ k + W ^ k * (N / W ^ k % v)
theorem left_div (N v k : Nat) : left N v k / W ^ k = N / W ^ k % v := win_div _ _ _
theorem left_top {N v k : Nat} (h : N < v * W ^ k) : left N v k = N := by
  have h1 : N / W ^ k < v := by rw [Nat.div_lt_iff_lt_mul (pow_pos' k)]; exact h
  unfold left; rw [Nat.mod_eq_of_lt h1, Nat.mod_add_div]
theorem left_win {N v j : Nat} : left N v (j + 1) / W ^ j = N / W ^ (j + 1) % v * 18446744073709551616 + dig N j := by
  unfold left
  rw [mod_succ, Nat.pow_succ, Nat.mul_assoc, Nat.add_assoc, ← Nat.mul_add, win_div, Nat.add_comm, Nat.mul_comm W]
theorem left_low {N v j : Nat} : left N v (j + 1) % W ^ j = N % W ^ j := by
  unfold left
  rw [mod_succ, Nat.pow_succ, Nat.mul_assoc, Nat.add_assoc, ← Nat.mul_add, Nat.add_mul_mod_self_left, Nat.mod_mod]
theorem left_step {N v j : Nat} (hv : 0 < v) : left N v (j + 1) / W ^ j / v = dig (N / v) j ∧ left N v (j + 1) / W ^ j % v = N / W ^ j % v ∧ left N v (j + 1) / W ^ j < v * W := by
  have h := small_step (A := N) (x := v) (k := j + 1) hv (by omega)
  rw [left_win]
  simp only [Nat.add_sub_cancel] at h
  refine ⟨h.1, h.2, ?_⟩
  have h1 := Nat.mod_lt (N / W ^ (j + 1)) hv
  have h2 := dig_lt N j
  have h3 : (N / W ^ (j + 1) % v + 1) * W ≤ v * W := Nat.mul_le_mul_right _ h1
  rw [Nat.add_mul, Nat.one_mul] at h3
  show N / W ^ (j + 1) % v * W + _ < _
  omega
theorem take_fine {w v g K : Nat} (hv : 0 < v) (hw : w < K) (h1 : w / v ≤ g) (h : ¬ w < v * g) : g = w / v ∧ (w + K - v * g) % K = w % v := by
  have h2 : g ≤ w / v := (Nat.le_div_iff_mul_le hv).2 (by rw [Nat.mul_comm]; omega)
  obtain rfl : g = w / v := Nat.le_antisymm h2 h1
  refine ⟨rfl, ?_⟩
  have h3 := Nat.div_add_mod w v
  have e : w + K - v * (w / v) = w % v + K := by omega
  rw [e, Nat.add_mod_right, Nat.mod_eq_of_lt (Nat.lt_of_le_of_lt (Nat.mod_le _ _) hw)]
theorem take_back {w v g K : Nat} (hv : 0 < v) (hw : w < K) (hg : v * g < K) (h1 : g ≤ w / v + 1) (h : w < v * g) : g - 1 = w / v ∧ 1 ≤ g ∧ ((w + K - v * g) % K + v) % K = w % v := by
  have h2 : w / v < g := by rw [Nat.div_lt_iff_lt_mul hv, Nat.mul_comm]; exact h
  obtain rfl : g = w / v + 1 := Nat.le_antisymm h1 h2
  refine ⟨Nat.add_sub_cancel _ _, Nat.le_add_left _ _, ?_⟩
  have h3 := Nat.div_add_mod w v
  rw [Nat.mul_add, Nat.mul_one] at h hg ⊢
  have h4 := Nat.mod_lt w hv
  have h5 : w + K - (v * (w / v) + v) < K := by omega
  rw [Nat.mod_eq_of_lt h5]
  have e : w + K - (v * (w / v) + v) + v = w % v + K := by omega
  rw [e, Nat.add_mod_right, Nat.mod_eq_of_lt (Nat.lt_of_le_of_lt (Nat.mod_le _ _) hw)]
theorem mix_down' {A Q m k d : Nat} (hk : 0 < k) (hm : k ≤ m) (hd : d = dig Q (k - 1)) : (mix k A Q m).set (k - 1) d = mix (k - 1) A Q m := by
  have := mix_down (A := A) (j := 0) hk hm hd
  simpa using this
theorem outStart (Q t : Nat) : List.replicate t 0 = mix t 0 Q t := by
  have : List.replicate t 0 = wordsN t 0 := eq_wordsN (fun x hx => by rw [List.mem_replicate] at hx; rw [hx.2]; decide) (by simp) (by rw [val_replicate]; simp)
  rw [this]; unfold mix; rw [Nat.sub_self]; simp [wordsN]
theorem outEnd (Q t : Nat) : mix 0 0 Q t = wordsN t Q := by simp [mix, wordsN]
theorem getW {N m j i t : Nat} (ht : t = j + i) (h : t < m) : (wordsN m N).getD t 0 = dig (N / W ^ j) i := by
  subst ht; rw [wordsN_getD h, dig_add_pow _ _ _ _ rfl]
theorem getV {v i t : Nat} (ht : t = i) : (words v).getD t 0 = dig v i := by subst ht; exact getD_words _ _
/-- all that one round of long division leans on -/
structure Rnd (N v j k g : Nat) : Prop where
  hd : 0 < dig v (k + 1)
  hw : left N v (j + 1) / W ^ j < W ^ ((List.length (words v)) + 1)
  fine : ¬ left N v (j + 1) / W ^ j < v * g → g = dig (N / v) j ∧ left N v (j + 1) % W ^ j + W ^ j * wdiff (left N v (j + 1) / W ^ j) (v * g) ((List.length (words v)) + 1) = left N v j
  bk : left N v (j + 1) / W ^ j < v * g → g - 1 = dig (N / v) j ∧ 1 ≤ g ∧ (left N v (j + 1) % W ^ j + W ^ j * wdiff (left N v (j + 1) / W ^ j) (v * g) ((List.length (words v)) + 1)) % W ^ j + W ^ j * wsum ((left N v (j + 1) % W ^ j + W ^ j * wdiff (left N v (j + 1) / W ^ j) (v * g) ((List.length (words v)) + 1)) / W ^ j) v ((List.length (words v)) + 1) = left N v j
theorem round {N v j k g : Nat} (hk : (List.length (words v)) = k + 2) (hg : g = gss (dig (left N v (j + 1) / W ^ j) (k + 2)) (dig (left N v (j + 1) / W ^ j) (k + 1)) (dig (left N v (j + 1) / W ^ j) k) (dig v (k + 1)) (dig v k)) (hgl : g < W) : Rnd N v j k g := by
  have hv0 : v ≠ 0 := by intro e; subst e; rw [nw_zero] at hk; omega
  have hv1 : W ^ (k + 1) ≤ v := by have := le_of_nw hv0; rwa [hk] at this
  have hv2 : v < W ^ (k + 2) := by have := nw_lt v; rwa [hk] at this
  have hpos : 0 < v := Nat.pos_of_ne_zero hv0
  obtain ⟨h1, h2, h3⟩ := left_step (N := N) (j := j) hpos
  have hgn := guess_near hv2 hv1 h3
  rw [← hg] at hgn
  have hw : left N v (j + 1) / W ^ j < W ^ ((List.length (words v)) + 1) := Nat.lt_of_lt_of_le h3 (by rw [hk, Nat.pow_succ W (k + 2)]; exact Nat.mul_le_mul_right _ (Nat.le_of_lt hv2))
  have hvg : v * g < W ^ ((List.length (words v)) + 1) := vq_lt (nw_lt v) hgl
  refine ⟨?_, hw, fun h => ?_, fun h => ?_⟩
  · have := dig_top hv0
    rw [hk] at this
    exact Nat.pos_of_ne_zero this
  · obtain ⟨e1, e2⟩ := take_fine hpos hw hgn.1 h
    refine ⟨e1.trans h1, ?_⟩
    unfold wdiff
    rw [e2, left_low, h2]; rfl
  · obtain ⟨e1, e2, e3⟩ := take_back hpos hw hvg hgn.2 h
    refine ⟨e1.trans h1, e2, ?_⟩
    rw [win_mod, win_div, left_low]
    unfold wdiff wsum
    rw [e3, h2]; rfl
theorem gss_lt (u2 u1 u0 v1 v0 : Nat) : gss u2 u1 u0 v1 v0 < 18446744073709551616 := Nat.lt_succ_of_le (Nat.min_le_right _ _)
theorem wordsN_eq {m a b : Nat} (h : a = b) : wordsN m a = wordsN m b := by rw [h]
end Go.Nt
