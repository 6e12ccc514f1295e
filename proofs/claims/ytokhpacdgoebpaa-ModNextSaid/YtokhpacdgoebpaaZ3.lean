/- What the functions on whole numbers tell. No program here. -/
import Derived.Test.YtokhpacdgoebpaaZ2
namespace Go.Nt
theorem zv_zero (n : Bool) (xs : List Nat) : zv n xs = 0 ↔ val xs = 0 := by unfold zv; split <;> omega
theorem from_neg (m : Bool) (xs : List Nat) : (m && decide (0 < (((List.length (words (val xs))) : Nat) : Int))) = decide (zv m xs < 0) := by
  rw [zv_neg]
  congr 1
  apply decide_eq_decide.2
  constructor
  · intro h e; rw [e, words_zero] at h; simp at h
  · intro h; have := nw_pos h; omega
theorem from_word (m : Bool) (n : Nat) : zv m (words n) = if m = true then -(n : Int) else (n : Int) := by unfold zv; rw [val_words]
theorem neg_word {x : Int} (h : x < 0) (h2 : -9223372036854775808 ≤ x) : (18446744073709551616 - (x % 18446744073709551616).toNat) % 18446744073709551616 = x.natAbs := by omega
theorem sgn_zero {n : Bool} {xs : List Nat} (h : ((bitLen (val xs) : Nat) : Int) = 0) : 0 = sgn (zv n xs) := by
  have h2 : val xs = 0 := by
    rcases Nat.eq_zero_or_pos (val xs) with e | e
    · exact e
    · have := bitLen_pos (x := val xs) (by omega); omega
  unfold sgn; rw [if_pos ((zv_zero n xs).2 h2)]
theorem sgn_of {n : Bool} {xs : List Nat} (h : ¬ ((bitLen (val xs) : Nat) : Int) = 0) : (if n = true then -1 else 1) = sgn (zv n xs) := by
  have h2 : val xs ≠ 0 := fun e => h (by rw [e]; rfl)
  cases n
  · have e : zv false xs = (val xs : Int) := zv_false xs
    show (1 : Int) = sgn (zv false xs)
    rw [e]; unfold sgn; rw [if_neg (by omega), if_neg (by omega)]
  · have e : zv true xs = -(val xs : Int) := by unfold zv; rw [if_pos rfl]
    show (-1 : Int) = sgn (zv true xs)
    rw [e]; unfold sgn; rw [if_neg (by omega), if_pos (by omega)]
theorem sgn_cases (z : Int) : (sgn z = 0 ∧ z = 0) ∨ (sgn z = -1 ∧ z < 0) ∨ (sgn z = 1 ∧ 0 < z) := by
  unfold sgn; split
  · exact .inl ⟨rfl, by assumption⟩
  · split
    · exact .inr (.inl ⟨rfl, by assumption⟩)
    · exact .inr (.inr ⟨rfl, by omega⟩)
theorem sgn_range (z : Int) : -1 ≤ sgn z ∧ sgn z ≤ 1 := by rcases sgn_cases z with h | h | h <;> omega
theorem cmpZ_lt {x y : Int} (h : sgn x < sgn y) : -1 = cmpZ x y := by
  have : x < y := by rcases sgn_cases x with h1 | h1 | h1 <;> rcases sgn_cases y with h2 | h2 | h2 <;> omega
  unfold cmpZ; rw [if_pos this]
theorem cmpZ_gt {x y : Int} (h : sgn y < sgn x) : 1 = cmpZ x y := by
  have : y < x := by rcases sgn_cases x with h1 | h1 | h1 <;> rcases sgn_cases y with h2 | h2 | h2 <;> omega
  unfold cmpZ; rw [if_neg (by omega), if_pos this]
theorem cmpN_cases (a b : Nat) : (a < b ∧ cmpN a b = -1) ∨ (b < a ∧ cmpN a b = 1) ∨ (a = b ∧ cmpN a b = 0) := by
  unfold cmpN; split
  · exact .inl ⟨by assumption, rfl⟩
  · split
    · exact .inr (.inl ⟨by assumption, rfl⟩)
    · exact .inr (.inr ⟨by omega, rfl⟩)
theorem cmpZ_cases (x y : Int) : (x < y ∧ cmpZ x y = -1) ∨ (y < x ∧ cmpZ x y = 1) ∨ (x = y ∧ cmpZ x y = 0) := by
  unfold cmpZ; split
  · exact .inl ⟨by assumption, rfl⟩
  · split
    · exact .inr (.inl ⟨by assumption, rfl⟩)
    · exact .inr (.inr ⟨by omega, rfl⟩)
theorem zv_sgn (m : Bool) (xs : List Nat) : zv m xs = (val xs : Int) ∨ zv m xs = -(val xs : Int) := by unfold zv; split <;> simp
theorem cmpZ_neg {m n : Bool} {xs ys : List Nat} (h1 : sgn (zv m xs) < 0) (h2 : ¬ sgn (zv m xs) < sgn (zv n ys)) (h3 : ¬ sgn (zv n ys) < sgn (zv m xs)) : cmpN (val ys) (val xs) = cmpZ (zv m xs) (zv n ys) := by
  have hx := zv_abs m xs
  have hy := zv_abs n ys
  generalize zv m xs = x at *
  generalize zv n ys = y at *
  rcases sgn_cases x with c | c | c <;> rcases sgn_cases y with d | d | d <;> rcases cmpN_cases (val ys) (val xs) with e | e | e <;> rcases cmpZ_cases x y with f | f | f <;> omega
theorem cmpZ_pos {m n : Bool} {xs ys : List Nat} (h1 : ¬ sgn (zv m xs) < 0) (h2 : ¬ sgn (zv m xs) < sgn (zv n ys)) (h3 : ¬ sgn (zv n ys) < sgn (zv m xs)) : cmpN (val xs) (val ys) = cmpZ (zv m xs) (zv n ys) := by
  have hx := zv_abs m xs
  have hy := zv_abs n ys
  generalize zv m xs = x at *
  generalize zv n ys = y at *
  rcases sgn_cases x with c | c | c <;> rcases sgn_cases y with d | d | d <;> rcases cmpN_cases (val xs) (val ys) with e | e | e <;> rcases cmpZ_cases x y with f | f | f <;> omega
theorem cmpZ_eq0 (x y : Int) : decide (cmpZ x y = 0) = decide (x = y) := by
  apply decide_eq_decide.2
  rcases cmpZ_cases x y with h | h | h <;> omega
theorem sgn_nn (z : Int) : 0 ≤ sgn z ↔ 0 ≤ z := by rcases sgn_cases z with h | h | h <;> omega
theorem sgn_pos (z : Int) : 0 < sgn z ↔ 0 < z := by rcases sgn_cases z with h | h | h <;> omega
theorem sgn_eq0 (z : Int) : sgn z = 0 ↔ z = 0 := by rcases sgn_cases z with h | h | h <;> omega
theorem sgn_lt (z : Int) : sgn z < 0 ↔ z < 0 := by rcases sgn_cases z with h | h | h <;> omega
theorem quo_rest (m n : Bool) (xs ys : List Nat) : zv m (words (if val ys = 0 then 0 else val xs % val ys)) = if zv n ys = 0 then 0 else (zv m xs).tmod (zv n ys) := by
  by_cases h : val ys = 0
  · rw [if_pos h, if_pos ((zv_zero n ys).2 h), from_word]; simp
  · rw [if_neg h, if_neg (fun e => h ((zv_zero n ys).1 e)), zv_tmod]
theorem ne_zv (n : Bool) (ys : List Nat) : decide (val ys ≠ 0) = decide (zv n ys ≠ 0) := decide_eq_decide.2 (not_congr (zv_zero n ys).symm)
/-- Euclid's quotient and rest out of those rounded to 0 -/
theorem euc0 {x y : Int} (h : ¬ y ≠ 0 ∨ 0 ≤ sgn (if y = 0 then 0 else x.tmod y)) : x.tdiv y = x / y ∧ (if y = 0 then 0 else x.tmod y) = (if y = 0 then 0 else x % y) := by
  by_cases hy : y = 0
  · subst hy; simp
  · rw [if_neg hy, sgn_nn] at h
    rw [if_neg hy, if_neg hy]
    exact (tmod_cases x y).1 (h.resolve_left (fun e => e hy))
theorem euc1 {x y : Int} (h : y ≠ 0 ∧ sgn (if y = 0 then 0 else x.tmod y) < 0) (hp : 0 < sgn y) : x.tdiv y - 1 = x / y ∧ (if y = 0 then 0 else x.tmod y) + y = (if y = 0 then 0 else x % y) := by
  obtain ⟨hy, h⟩ := h
  rw [if_neg hy, sgn_lt] at h
  rw [if_neg hy, if_neg hy]
  exact ((tmod_cases x y).2 h).1 ((sgn_pos y).1 hp)
theorem euc2 {x y : Int} (h : y ≠ 0 ∧ sgn (if y = 0 then 0 else x.tmod y) < 0) (hp : sgn y ≤ 0) : x.tdiv y + 1 = x / y ∧ (if y = 0 then 0 else x.tmod y) - y = (if y = 0 then 0 else x % y) := by
  obtain ⟨hy, h⟩ := h
  rw [if_neg hy, sgn_lt] at h
  rw [if_neg hy, if_neg hy]
  refine ((tmod_cases x y).2 h).2 ?_
  rcases sgn_cases y with g | g | g <;> omega
theorem ex_no {x y : Int} (h : ¬ y ≠ 0 ∨ ¬ sgn (if y = 0 then 0 else x.tmod y) = 0) : ¬ (y ≠ 0 ∧ x.tmod y = 0) := by
  rintro ⟨h1, h2⟩
  rcases h with h | h
  · exact h h1
  · rw [if_neg h1, sgn_eq0] at h; exact h h2
theorem ex_yes {x y : Int} (h : y ≠ 0 ∧ sgn (if y = 0 then 0 else x.tmod y) = 0) : y ≠ 0 ∧ x.tmod y = 0 := by
  obtain ⟨h1, h2⟩ := h
  rw [if_neg h1, sgn_eq0] at h2
  exact ⟨h1, h2⟩
theorem nz_if (x y : Int) : (List.length (words (if y = 0 then 0 else x.tmod y).natAbs)) ≤ (List.length (words x.natAbs)) := by
  split
  · rw [Int.natAbs_zero, words_zero]; exact Nat.zero_le _
  · exact nz_tmod x y
theorem nz_one : (List.length (words (1 : Int).natAbs)) = 1 := nw_one
end Go.Nt
