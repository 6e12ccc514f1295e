/- Rules and contracts, part 4 of 6. -/
import Derived.Test.YtfoclelageohiaaQBareissDets3
/- What the functions on whole numbers tell. No program here. -/
namespace Go.Nt
theorem zv_zero (n : Bool) (xs : List Nat) : zv n xs = 0 ↔ val xs = 0 := by unfold zv; split <;> omega
theorem from_neg (m : Bool) (xs : List Nat) : (m && decide (0 < (((List.length (words (val xs))) : Nat) : Int))) = decide (zv m xs < 0) := by
  rw [zv_neg]
  congr 1
  apply decide_eq_decide.2
  constructor
  · intro h e; rw [e, words_zero] at h; simp at h
  · intro h; have := nw_pos h; omega
theorem from_word (m : Bool) (n : Nat) : zv m (words n) = if m = true then -(n : Int) else (n : Int) := by unfold zv; rw [val_words]
theorem neg_word {x : Int} (h : x < 0) (h2 : -9223372036854775808 ≤ x) : (18446744073709551616 - (x % 18446744073709551616).toNat) % 18446744073709551616 = x.natAbs := by omega
theorem sgn_zero {n : Bool} {xs : List Nat} (h : ((bitLen (val xs) : Nat) : Int) = 0) : 0 = sgn (zv n xs) := by
  have h2 : val xs = 0 := by
    rcases Nat.eq_zero_or_pos (val xs) with e | e
    · exact e
    · have := bitLen_pos (x := val xs) (by omega); omega
  unfold sgn; rw [if_pos ((zv_zero n xs).2 h2)]
theorem sgn_of {n : Bool} {xs : List Nat} (h : ¬ ((bitLen (val xs) : Nat) : Int) = 0) : (if n = true then -1 else 1) = sgn (zv n xs) := by
  have h2 : val xs ≠ 0 := fun e => h (by rw [e]; rfl)
  cases n
  · have e : zv false xs = (val xs : Int) := zv_false xs
    show (1 : Int) = sgn (zv false xs)
    rw [e]; unfold sgn; rw [if_neg (by omega), if_neg (by omega)]
  · have e : zv true xs = -(val xs : Int) := by unfold zv; rw [if_pos rfl]
    show (-1 : Int) = sgn (zv true xs)
    rw [e]; unfold sgn; rw [if_neg (by omega), if_pos (by omega)]
theorem sgn_cases (z : Int) : (sgn z = 0 ∧ z = 0) ∨ (sgn z = -1 ∧ z < 0) ∨ (sgn z = 1 ∧ 0 < z) := by
  unfold sgn; split
  · exact .inl ⟨rfl, by assumption⟩
  · split
    · exact .inr (.inl ⟨rfl, by assumption⟩)
    · exact .inr (.inr ⟨rfl, by omega⟩)
theorem sgn_range (z : Int) : -1 ≤ sgn z ∧ sgn z ≤ 1 := by rcases sgn_cases z with h | h | h <;> omega
theorem cmpZ_lt {x y : Int} (h : sgn x < sgn y) : -1 = cmpZ x y := by
  have : x < y := by rcases sgn_cases x with h1 | h1 | h1 <;> rcases sgn_cases y with h2 | h2 | h2 <;> omega
  unfold cmpZ; rw [if_pos this]
theorem cmpZ_gt {x y : Int} (h : sgn y < sgn x) : 1 = cmpZ x y := by
  have : y < x := by rcases sgn_cases x with h1 | h1 | h1 <;> rcases sgn_cases y with h2 | h2 | h2 <;> omega
  unfold cmpZ; rw [if_neg (by omega), if_pos this]
theorem cmpN_cases (a b : Nat) : (a < b ∧ cmpN a b = -1) ∨ (b < a ∧ cmpN a b = 1) ∨ (a = b ∧ cmpN a b = 0) := by
  unfold cmpN; split
  · exact .inl ⟨by assumption, rfl⟩
  · split
    · exact .inr (.inl ⟨by assumption, rfl⟩)
    · exact .inr (.inr ⟨by omega, rfl⟩)
theorem cmpZ_cases (x y : Int) : (x < y ∧ cmpZ x y = -1) ∨ (y < x ∧ cmpZ x y = 1) ∨ (x = y ∧ cmpZ x y = 0) := by
  unfold cmpZ; split
  · exact .inl ⟨by assumption, rfl⟩
  · split
    · exact .inr (.inl ⟨by assumption, rfl⟩)
    · exact .inr (.inr ⟨by omega, rfl⟩)
theorem zv_sgn (m : Bool) (xs : List Nat) : zv m xs = (val xs : Int) ∨ zv m xs = -(val xs : Int) := by unfold zv; split <;> simp
theorem cmpZ_neg {m n : Bool} {xs ys : List Nat} (h1 : sgn (zv m xs) < 0) (h2 : ¬ sgn (zv m xs) < sgn (zv n ys)) (h3 : ¬ sgn (zv n ys) < sgn (zv m xs)) : cmpN (val ys) (val xs) = cmpZ (zv m xs) (zv n ys) := by
  have hx := zv_abs m xs
  have hy := zv_abs n ys
  generalize zv m xs = x at *
  generalize zv n ys = y at *
  rcases sgn_cases x with c | c | c <;> rcases sgn_cases y with d | d | d <;> rcases cmpN_cases (val ys) (val xs) with e | e | e <;> rcases cmpZ_cases x y with f | f | f <;> omega
theorem cmpZ_pos {m n : Bool} {xs ys : List Nat} (h1 : ¬ sgn (zv m xs) < 0) (h2 : ¬ sgn (zv m xs) < sgn (zv n ys)) (h3 : ¬ sgn (zv n ys) < sgn (zv m xs)) : cmpN (val xs) (val ys) = cmpZ (zv m xs) (zv n ys) := by
  have hx := zv_abs m xs
  have hy := zv_abs n ys
  generalize zv m xs = x at *
  generalize zv n ys = y at *
  rcases sgn_cases x with c | c | c <;> rcases sgn_cases y with d | d | d <;> rcases cmpN_cases (val xs) (val ys) with e | e | e <;> rcases cmpZ_cases x y with f | f | f <;> omega
theorem cmpZ_eq0 (x y : Int) : decide (cmpZ x y = 0) = decide (x = y) := by
  apply decide_eq_decide.2
  rcases cmpZ_cases x y with h | h | h <;> omega
theorem sgn_nn (z : Int) : 0 ≤ sgn z ↔ 0 ≤ z := by rcases sgn_cases z with h | h | h <;> omega
theorem sgn_pos (z : Int) : 0 < sgn z ↔ 0 < z := by rcases sgn_cases z with h | h | h <;> omega
theorem sgn_eq0 (z : Int) : sgn z = 0 ↔ z = 0 := by rcases sgn_cases z with h | h | h <;> omega
theorem sgn_lt (z : Int) : sgn z < 0 ↔ z < 0 := by rcases sgn_cases z with h | h | h <;> omega
theorem quo_rest (m n : Bool) (xs ys : List Nat) : zv m (words (if val ys = 0 then 0 else val xs % val ys)) = if zv n ys = 0 then 0 else (zv m xs).tmod (zv n ys) := by
  by_cases h : val ys = 0
  · rw [if_pos h, if_pos ((zv_zero n ys).2 h), from_word]; simp
  · rw [if_neg h, if_neg (fun e => h ((zv_zero n ys).1 e)), zv_tmod]
theorem ne_zv (n : Bool) (ys : List Nat) : decide (val ys ≠ 0) = decide (zv n ys ≠ 0) := decide_eq_decide.2 (not_congr (zv_zero n ys).symm)
/-- Euclid's quotient and rest out of those rounded to 0 -/
theorem euc0 {x y : Int} (h : ¬ y ≠ 0 ∨ 0 ≤ sgn (if y = 0 then 0 else x.tmod y)) : x.tdiv y = x / y ∧ (if y = 0 then 0 else x.tmod y) = (if y = 0 then 0 else x % y) := by
  by_cases hy : y = 0
  · subst hy; simp
  · rw [if_neg hy, sgn_nn] at h
    rw [if_neg hy, if_neg hy]
    exact (tmod_cases x y).1 (h.resolve_left (fun e => e hy))
theorem euc1 {x y : Int} (h : y ≠ 0 ∧ sgn (if y = 0 then 0 else x.tmod y) < 0) (hp : 0 < sgn y) : x.tdiv y - 1 = x / y ∧ (if y = 0 then 0 else x.tmod y) + y = (if y = 0 then 0 else x % y) := by
  obtain ⟨hy, h⟩ := h
  rw [if_neg hy, sgn_lt] at h
  rw [if_neg hy, if_neg hy]
  exact ((tmod_cases x y).2 h).1 ((sgn_pos y).1 hp)
theorem euc2 {x y : Int} (h : y ≠ 0 ∧ sgn (if y = 0 then 0 else x.tmod y) < 0) (hp : sgn y ≤ 0) : x.tdiv y + 1 = x / y ∧ (if y = 0 then 0 else x.tmod y) - y = (if y = 0 then 0 else x % y) := by
  obtain ⟨hy, h⟩ := h
  rw [if_neg hy, sgn_lt] at h
  rw [if_neg hy, if_neg hy]
  refine ((tmod_cases x y).2 h).2 ?_
  rcases sgn_cases y with g | g | g <;> omega
theorem ex_no {x y : Int} (h : ¬ y ≠ 0 ∨ ¬ sgn (if y = 0 then 0 else x.tmod y) = 0) : ¬ (y ≠ 0 ∧ x.tmod y = 0) := by
  rintro ⟨h1, h2⟩
  rcases h with h | h
  · exact h h1
  · rw [if_neg h1, sgn_eq0] at h; exact h h2
theorem ex_yes {x y : Int} (h : y ≠ 0 ∧ sgn (if y = 0 then 0 else x.tmod y) = 0) : y ≠ 0 ∧ x.tmod y = 0 := by
  obtain ⟨h1, h2⟩ := h
  rw [if_neg h1, sgn_eq0] at h2
  exact ⟨h1, h2⟩
theorem nz_if (x y : Int) : (List.length (words (if y = 0 then 0 else x.tmod y).natAbs)) ≤ (List.length (words x.natAbs)) := by
  split
  · rw [Int.natAbs_zero, words_zero]; exact Nat.zero_le _
  · exact nz_tmod x y
theorem nz_one : (List.length (words (1 : Int).natAbs)) = 1 := nw_one
end Go.Nt
/- Whole numbers as a sign and digits; the reference for them. No program here. -/
namespace Go.Nt
def dv (n : Bool) (xs : List Nat) : Int := if n = true then -(dval xs : Int) else (dval xs : Int)
theorem dv_digs (m : Bool) (n : Nat) : dv m (digs n) = if m = true then -(n : Int) else (n : Int) := by unfold dv; rw [d_val_words]
theorem dv_nf (z : Int) : dv (decide (z < 0)) (digs z.natAbs) = z := by
  rw [dv_digs]
  by_cases h : z < 0
  · rw [decide_eq_true h, if_pos rfl]; omega
  · rw [decide_eq_false h, if_neg (by decide)]; omega
theorem dv_abs (n : Bool) (xs : List Nat) : (dv n xs).natAbs = dval xs := by unfold dv; split <;> omega
theorem nd_pos {n : Nat} (h : n ≠ 0) : 0 < (List.length (digs n)) := by
  rcases Nat.eq_zero_or_pos ((List.length (digs n))) with e | e
  · have h2 : digs n = [] := List.eq_nil_of_length_eq_zero e
    have := d_val_words n
    rw [h2] at this; exact absurd this.symm h
  · exact e
theorem nd_zero : (List.length (digs 0)) = 0 := by rw [d_words_zero]; rfl
theorem norm_neg (m : Bool) (xs : List Nat) : (m && decide (0 < (((List.length (digs (dval xs))) : Nat) : Int))) = decide (dv m xs < 0) := by
  have e : decide (0 < (((List.length (digs (dval xs))) : Nat) : Int)) = decide (dval xs ≠ 0) := by
    apply decide_eq_decide.2
    constructor
    · intro h e; rw [e, nd_zero] at h; simp at h
    · intro h; have := nd_pos h; omega
  rw [e]
  unfold dv
  cases m
  · rw [if_neg (by decide), Bool.false_and]; exact (decide_eq_false (by omega)).symm
  · rw [if_pos rfl, Bool.true_and]; exact decide_eq_decide.2 (by omega)
theorem dsgn0 {x : Int} (h : (((List.length (digs x.natAbs)) : Nat) : Int) = 0) : 0 = sgn x := by
  have : x = 0 := by
    rcases Nat.eq_zero_or_pos x.natAbs with e | e
    · omega
    · have := nd_pos (n := x.natAbs) (by omega); omega
  subst this; rfl
theorem dsgn1 {x : Int} (h : ¬ (((List.length (digs x.natAbs)) : Nat) : Int) = 0) : x ≠ 0 := fun e => h (by rw [e]; show (((List.length (digs 0)) : Nat) : Int) = 0; rw [nd_zero]; rfl)
theorem dv_add_same {x y : Int} (h : (decide (x < 0) == decide (y < 0)) = true) : dv (decide (x < 0)) (digs (x.natAbs + y.natAbs)) = x + y := by
  have h2 : x < 0 ↔ y < 0 := by simpa using h
  rw [dv_digs]
  by_cases hx : x < 0
  · rw [decide_eq_true hx, if_pos rfl]; have := h2.1 hx; omega
  · rw [decide_eq_false hx, if_neg (by decide)]; have : ¬ y < 0 := fun e => hx (h2.2 e); omega
theorem dv_add_sub {x y : Int} (h : (decide (x < 0) == decide (y < 0)) = false) (hle : y.natAbs ≤ x.natAbs) : dv (decide (x < 0)) (digs (x.natAbs - y.natAbs)) = x + y := by
  have h2 : ¬ (x < 0 ↔ y < 0) := by simpa using h
  rw [dv_digs]
  by_cases hx : x < 0
  · rw [decide_eq_true hx, if_pos rfl]; have : ¬ y < 0 := fun e => h2 ⟨fun _ => e, fun _ => hx⟩; omega
  · rw [decide_eq_false hx, if_neg (by decide)]
    have : y < 0 := by
      rcases Int.lt_or_le y 0 with e | e
      · exact e
      · exact absurd ⟨fun a => absurd a hx, fun a => absurd a (by omega)⟩ h2
    omega
theorem dv_mul (x y : Int) : dv (!(decide (x < 0) == decide (y < 0))) (digs (x.natAbs * y.natAbs)) = x * y := by
  rw [dv_digs, Int.natCast_mul]
  have hx : (x.natAbs : Int) = if x < 0 then -x else x := by split <;> omega
  have hy : (y.natAbs : Int) = if y < 0 then -y else y := by split <;> omega
  rw [hx, hy]
  by_cases a : x < 0 <;> by_cases b : y < 0 <;> simp [a, b, Int.neg_mul, Int.mul_neg]
theorem dv_not (x : Int) : dv (!decide (x < 0)) (digs x.natAbs) = -x := by
  rw [dv_digs]
  by_cases h : x < 0
  · rw [decide_eq_true h, Bool.not_true, if_neg (by decide)]; omega
  · rw [decide_eq_false h, Bool.not_false, if_pos rfl]; omega
theorem nd_add_le (a b : Nat) : (List.length (digs (a + b))) ≤ max ((List.length (digs a))) ((List.length (digs b))) + 1 := by
  apply d_nw_le
  have h1 : a < D ^ max ((List.length (digs a))) ((List.length (digs b))) := d_lt_pow_of (Nat.le_max_left _ _)
  have h2 : b < D ^ max ((List.length (digs a))) ((List.length (digs b))) := d_lt_pow_of (Nat.le_max_right _ _)
  rw [Nat.pow_succ]
  have : 2 * D ^ max ((List.length (digs a))) ((List.length (digs b))) ≤ D ^ max ((List.length (digs a))) ((List.length (digs b))) * D := by rw [Nat.mul_comm]; exact Nat.mul_le_mul_left _ (by decide)
  omega
theorem nd_mul_le (a b : Nat) : (List.length (digs (a * b))) ≤ (List.length (digs a)) + (List.length (digs b)) := d_nw_le (by rw [Nat.pow_add]; exact Nat.mul_lt_mul_of_lt_of_lt (d_nw_lt a) (d_nw_lt b))
theorem zd_add (x y : Int) : (List.length (digs (x + y).natAbs)) ≤ max ((List.length (digs x.natAbs))) ((List.length (digs y.natAbs))) + 1 := Nat.le_trans (d_nw_mono (Int.natAbs_add_le x y)) (nd_add_le _ _)
theorem zd_sub (x y : Int) : (List.length (digs (x - y).natAbs)) ≤ max ((List.length (digs x.natAbs))) ((List.length (digs y.natAbs))) + 1 := by
  have := zd_add x (-y); rwa [Int.natAbs_neg, ← Int.sub_eq_add_neg] at this
theorem zd_mul (x y : Int) : (List.length (digs (x * y).natAbs)) ≤ (List.length (digs x.natAbs)) + (List.length (digs y.natAbs)) := by rw [Int.natAbs_mul]; exact nd_mul_le _ _
theorem zd_one : (List.length (digs (1 : Int).natAbs)) = 1 := by show (List.length (digs 1)) = 1; rw [one_digs]; rfl
/-- the quotient rounded down, by a number above 0 -/
theorem flo_pos {x y : Int} (hy : 0 < y) : (0 ≤ x → ((x.natAbs / y.natAbs : Nat) : Int) = x / y) ∧
    (x < 0 → (x.natAbs % y.natAbs = 0 → -((x.natAbs / y.natAbs : Nat) : Int) = x / y) ∧ (x.natAbs % y.natAbs ≠ 0 → -((x.natAbs / y.natAbs : Nat) : Int) - 1 = x / y)) := by
  obtain ⟨b, rfl⟩ : ∃ b : Nat, y = (b : Int) := ⟨y.toNat, by omega⟩
  rw [Int.natAbs_natCast]
  have hb : 0 < b := by omega
  constructor
  · intro h
    obtain ⟨a, rfl⟩ : ∃ a : Nat, x = (a : Int) := ⟨x.toNat, by omega⟩
    rw [Int.natAbs_natCast, Int.natCast_ediv]
  · intro h
    obtain ⟨a, ha, rfl⟩ : ∃ a : Nat, 0 < a ∧ x = -(a : Int) := ⟨x.natAbs, by omega, by omega⟩
    rw [Int.natAbs_neg, Int.natAbs_natCast]
    have e := Nat.div_add_mod a b
    have hm := Nat.mod_lt a hb
    have e' : (a : Int) = b * ((a / b : Nat) : Int) + ((a % b : Nat) : Int) := by rw [← Int.natCast_mul, ← Int.natCast_add, e]
    constructor
    · intro h0
      symm
      rw [h0] at e'
      rw [e']
      rw [Int.natCast_zero, Int.add_zero, ← Int.mul_neg]
      exact Int.mul_ediv_cancel_left _ (by omega)
    · intro h0
      symm
      have e2 : -(a : Int) = (b - ((a % b : Nat) : Int)) + b * (-((a / b : Nat) : Int) - 1) := by
        rw [Int.mul_sub, Int.mul_neg, Int.mul_one]; omega
      rw [e2, Int.add_mul_ediv_left _ _ (by omega), Int.ediv_eq_zero_of_lt (by omega) (by omega)]
      omega
theorem flo0 {x y : Int} (hy : 0 < y) (h : (decide (x < 0) == decide (y < 0)) = true) : dv (!(decide (x < 0) == decide (y < 0))) (digs (x.natAbs / y.natAbs)) = x / y := by
  have hx : 0 ≤ x := by
    have h2 : x < 0 ↔ y < 0 := by simpa using h
    rcases Int.lt_or_le x 0 with e | e
    · have := h2.1 e; omega
    · exact e
  rw [h, dv_digs, Bool.not_true, if_neg (by decide)]
  exact (flo_pos hy).1 hx
theorem flo1 {x y : Int} (hy : 0 < y) (h : (decide (x < 0) == decide (y < 0)) = false) (h0 : x.natAbs % y.natAbs = 0) : dv (!(decide (x < 0) == decide (y < 0))) (digs (x.natAbs / y.natAbs)) = x / y := by
  have hx : x < 0 := by
    rcases Int.lt_or_le x 0 with e | e
    · exact e
    · rw [decide_eq_false (by omega), decide_eq_false (by omega)] at h; simp at h
  rw [h, dv_digs, Bool.not_false, if_pos rfl]
  exact ((flo_pos hy).2 hx).1 h0
theorem flo2 {x y : Int} (hy : 0 < y) (h : (decide (x < 0) == decide (y < 0)) = false) (h0 : x.natAbs % y.natAbs ≠ 0) : dv (!(decide (x < 0) == decide (y < 0))) (digs (x.natAbs / y.natAbs)) - 1 = x / y := by
  have hx : x < 0 := by
    rcases Int.lt_or_le x 0 with e | e
    · exact e
    · rw [decide_eq_false (by omega), decide_eq_false (by omega)] at h; simp at h
  rw [h, dv_digs, Bool.not_false, if_pos rfl]
  exact ((flo_pos hy).2 hx).2 h0
theorem flo_sign {x y : Int} (hy : 0 < y) (h : (decide (x < 0) == decide (y < 0)) = true) : ¬ dv (!(decide (x < 0) == decide (y < 0))) (digs (x.natAbs / y.natAbs)) < 0 := by
  rw [h, dv_digs, Bool.not_true, if_neg (by decide)]; exact Int.not_lt.2 (Int.natCast_nonneg _)
theorem nd_rest0 {n : Nat} (h : (((List.length (digs n)) : Nat) : Int) ≤ 0) : n = 0 := by
  rcases Nat.eq_zero_or_pos n with e | e
  · exact e
  · have := nd_pos (n := n) (by omega); omega
theorem nd_rest1 {n : Nat} (h : 0 < (((List.length (digs n)) : Nat) : Int)) : n ≠ 0 := fun e => by rw [e, nd_zero] at h; simp at h
theorem flo_rest (x y : Int) : x - x / y * y = x % y := by have := Int.mul_ediv_add_emod x y; rw [Int.mul_comm]; omega
/-! ### lines of a product -/
def lineL (a b i k : Nat) : List Nat := List.replicate i 0 ++ (List.range k).map fun j => dg a j * dg b i
theorem lineL_len (a b i k : Nat) : (lineL a b i k).length = i + k := by simp [lineL]
theorem lineL_succ (a b i k : Nat) : lineL a b i (k + 1) = lineL a b i k ++ [dg a k * dg b i] := by simp [lineL, List.range_succ]
theorem lineL_zero (a b i : Nat) : lineL a b i 0 = List.replicate i 0 := by simp [lineL]
theorem dval_rep (k : Nat) : dval (List.replicate k 0) = 0 := d_val_replicate k
theorem dval_line (a b i : Nat) : ∀ k, dval (lineL a b i k) = D ^ i * (a % D ^ k * dg b i)
  | 0 => by rw [lineL_zero, dval_rep, Nat.pow_zero, Nat.mod_one, Nat.zero_mul, Nat.mul_zero]
  | k + 1 => by
    rw [lineL_succ, d_val_append, dval_line a b i k, lineL_len, d_mod_succ]
    simp only [dval, Nat.mul_zero, Nat.add_zero, Nat.add_mul, Nat.mul_add, Nat.pow_add, Nat.mul_assoc]
theorem lineL_le (a b i k : Nat) : ∀ x ∈ lineL a b i k, x ≤ 1099511627776 := by
  intro x hx
  rcases List.mem_append.1 hx with h | h
  · rw [(List.mem_replicate.1 h).2]; exact Nat.zero_le _
  · obtain ⟨j, _, rfl⟩ := List.mem_map.1 h
    have h1 := d_dig_lt a j
    have h2 := d_dig_lt b i
    have := Nat.mul_le_mul (Nat.le_of_lt h1) (Nat.le_of_lt h2)
    unfold D at *; omega
theorem line_sum {a b i k : Nat} (hk : (List.length (digs a)) ≤ k) : a * (b % D ^ i) + dval (lineL a b i k) = a * (b % D ^ (i + 1)) := by
  rw [dval_line, d_mod_succ, Nat.mul_add, Nat.mod_eq_of_lt (d_lt_pow_of hk)]
  rw [Nat.mul_left_comm]
theorem lineL_nd (a b i k : Nat) : (List.length (digs (dval (lineL a b i k)))) ≤ (List.length (digs a)) + (List.length (digs b)) := by
  refine Nat.le_trans (d_nw_mono ?_) (nd_mul_le a b)
  rw [dval_line, Nat.mul_left_comm]
  refine Nat.mul_le_mul (Nat.mod_le _ _) ?_
  have h1 := d_mod_succ b i
  have h2 := Nat.mod_le b (D ^ (i + 1))
  rw [h1] at h2
  exact Nat.le_trans (Nat.le_add_left _ _) h2
theorem mul_end {a b i : Nat} (h : (List.length (digs b)) ≤ i) : a * (b % D ^ i) = a * b := by rw [Nat.mod_eq_of_lt (d_lt_pow_of h)]
theorem mul_part (a b i : Nat) : (List.length (digs (a * (b % D ^ i)))) ≤ (List.length (digs a)) + (List.length (digs b)) := Nat.le_trans (d_nw_mono (Nat.mul_le_mul_left _ (Nat.mod_le _ _))) (nd_mul_le _ _)
theorem rep_succ (k : Nat) : List.replicate (k + 1) 0 = List.replicate k 0 ++ [0] := by rw [List.replicate_succ']
end Go.Nt
/- Inverses and powers by a modulus. No program here. -/
namespace Go.Nt
/-- what makes the greatest common divisor, as it is told -/
def xg (A B : Int) : Int := (cof A B 1 0).2 % ((B.natAbs : Int) / ((Nat.gcd A.natAbs B.natAbs : Nat) : Int))
theorem gcd_pos' {A B : Int} (h : B ≠ 0) : 0 < Nat.gcd A.natAbs B.natAbs := Nat.gcd_pos_of_pos_right _ (by omega)
theorem xg_step {A B : Int} (h : B ≠ 0) : (if (cof A B 1 0).1 ≠ 0 ∧ (((B.natAbs : Nat) : Int)).tmod (cof A B 1 0).1 = 0 then (((B.natAbs : Nat) : Int)).tdiv (cof A B 1 0).1 else 0) = (B.natAbs : Int) / ((Nat.gcd A.natAbs B.natAbs : Nat) : Int) := by
  have hg := gcd_pos' (A := A) h
  rw [(cof_all A B).1]
  have hd : B.natAbs % Nat.gcd A.natAbs B.natAbs = 0 := Nat.mod_eq_zero_of_dvd (Nat.gcd_dvd_right _ _)
  have h1 : (((B.natAbs : Nat) : Int)).tmod ((Nat.gcd A.natAbs B.natAbs : Nat) : Int) = 0 := by
    rw [← Int.ofNat_tmod, hd]; rfl
  rw [if_pos ⟨by omega, h1⟩, Int.tdiv_eq_ediv_of_nonneg (by omega)]
theorem step_pos {A B : Int} (h : B ≠ 0) : 0 < (B.natAbs : Int) / ((Nat.gcd A.natAbs B.natAbs : Nat) : Int) := by
  have hg := gcd_pos' (A := A) h
  rw [← Int.natCast_ediv]
  have : 0 < B.natAbs / Nat.gcd A.natAbs B.natAbs := Nat.div_pos (Nat.le_of_dvd (by omega) (Nat.gcd_dvd_right _ _)) hg
  omega
theorem step_le (A B : Int) : ((B.natAbs : Int) / ((Nat.gcd A.natAbs B.natAbs : Nat) : Int)).natAbs ≤ B.natAbs := by
  rw [← Int.natCast_ediv, Int.natAbs_natCast]; exact Nat.div_le_self _ _
theorem xg_le {A B : Int} (h : B ≠ 0) : (xg A B).natAbs ≤ B.natAbs := by
  have h1 := step_pos (A := A) h
  have h2 := step_le A B
  have h3 := Int.emod_nonneg (cof A B 1 0).2 (show (B.natAbs : Int) / ((Nat.gcd A.natAbs B.natAbs : Nat) : Int) ≠ 0 by omega)
  have h4 := Int.emod_lt_of_pos (cof A B 1 0).2 h1
  unfold xg; omega
def inv (A m : Int) : Int := xg A m % m
theorem inv_spec {A m : Int} (hm : 0 < m) (hg : Nat.gcd A.natAbs m.natAbs = 1) : 0 ≤ inv A m ∧ inv A m < m ∧ m ∣ A * inv A m - 1 := by
  refine ⟨Int.emod_nonneg _ (by omega), Int.emod_lt_of_pos _ hm, ?_⟩
  obtain ⟨h1, h2, _⟩ := cof_all A m
  rw [hg] at h1
  have e : xg A m = (cof A m 1 0).2 % m := by
    unfold xg; rw [hg]
    have : (m.natAbs : Int) / ((1 : Nat) : Int) = m := by rw [Int.natCast_one, Int.ediv_one]; omega
    rw [this]
  have e2 : inv A m = (cof A m 1 0).2 % m := by unfold inv; rw [e, Int.emod_emod_of_dvd _ (Int.dvd_refl m)]
  rw [e2]
  rw [h1] at h2
  obtain ⟨k, hk⟩ := h2
  have hq := Int.mul_ediv_add_emod (cof A m 1 0).2 m
  generalize (cof A m 1 0).2 = c at *
  refine ⟨-k - A * (c / m), ?_⟩
  have : c % m = c - m * (c / m) := by omega
  rw [this, Int.mul_sub, Int.mul_sub, Int.mul_neg, Int.mul_left_comm]
  have h3 : A * c = c * A := Int.mul_comm _ _
  have h4 : ((1 : Nat) : Int) = 1 := rfl
  omega
theorem no_inv {A m x : Int} (hg : Nat.gcd A.natAbs m.natAbs ≠ 1) : ¬ m ∣ A * x - 1 := by
  rintro h
  apply hg
  have h1 : ((Nat.gcd A.natAbs m.natAbs : Nat) : Int) ∣ A := Int.ofNat_dvd_left.2 (Nat.gcd_dvd_left _ _)
  have h2 : ((Nat.gcd A.natAbs m.natAbs : Nat) : Int) ∣ m := Int.ofNat_dvd_left.2 (Nat.gcd_dvd_right _ _)
  have h3 : ((Nat.gcd A.natAbs m.natAbs : Nat) : Int) ∣ 1 := by
    have a := Int.dvd_trans h2 h
    have b := Int.dvd_mul_of_dvd_left (c := x) h1
    have := Int.dvd_sub b a
    rwa [show A * x - (A * x - 1) = 1 by omega] at this
  exact Nat.dvd_one.1 (Int.ofNat_dvd_left.1 h3)
/-! ### powers -/
theorem emod_mul_emod' (x y m : Int) : (x % m) * (y % m) % m = x * y % m := (Int.mul_emod x y m).symm
theorem emod_mul_left (x y m : Int) : (x % m) * y % m = x * y % m := by rw [Int.mul_emod, Int.emod_emod_of_dvd _ (Int.dvd_refl m), ← Int.mul_emod]
theorem pow_bit (b m : Int) (n s : Nat) : (n / 2 ^ s % 2 = 1 → (((b ^ (n / 2 ^ (s + 1)) % m) * (b ^ (n / 2 ^ (s + 1)) % m)) % m * b) % m = b ^ (n / 2 ^ s) % m) ∧
    (n / 2 ^ s % 2 ≠ 1 → ((b ^ (n / 2 ^ (s + 1)) % m) * (b ^ (n / 2 ^ (s + 1)) % m)) % m = b ^ (n / 2 ^ s) % m) := by
  have es := bit_step n s
  constructor
  · intro h
    rw [h] at es
    rw [es, emod_mul_emod', emod_mul_left, Int.pow_succ, Nat.two_mul, Int.pow_add]
  · intro h
    have : n / 2 ^ s = 2 * (n / 2 ^ (s + 1)) := by omega
    rw [this, emod_mul_emod', Nat.two_mul, Int.pow_add]
theorem dig_bit (n i : Nat) : dig n (i / 64) / 2 ^ (i % 64) % 2 = n / 2 ^ i % 2 := by
  unfold dig
  rw [pow_split i, ← Nat.div_div_eq_div_mul]
  generalize n / W ^ (i / 64) = m
  have h64 : i % 64 < 64 := Nat.mod_lt _ (by decide)
  generalize i % 64 = r at *
  have h2 : W = 2 ^ r * 2 * 2 ^ (63 - r) := by
    rw [← Nat.pow_succ, ← Nat.pow_add, show r + 1 + (63 - r) = 64 by omega]
  rw [h2, ← Nat.mod_mul_right_div_self, ← Nat.mod_mul_right_div_self, Nat.mod_mul_right_mod]
theorem bit_high {xs : List Nat} {i : Nat} (h : Ok xs) (hi : xs.length ≤ i / 64) : val xs / 2 ^ i % 2 = 0 := by
  have h1 := val_lt h
  have h2 : W ^ xs.length ≤ 2 ^ i := by rw [W_pow]; exact Nat.pow_le_pow_right (by decide) (by omega)
  rw [Nat.div_eq_of_lt (Nat.lt_of_lt_of_le h1 h2)]
/-! ### Euclid's steps are few -/
theorem euclid_half {x y : Nat} (h : y ≤ x) (hy : 0 < y) : 2 * (y * (x % y)) ≤ x * y := by
  have h1 := Nat.mod_lt x hy
  have h2 := Nat.div_add_mod x y
  have h3 : 1 ≤ x / y := (Nat.one_le_div_iff hy).2 h
  have h4 : y + x % y ≤ x := by
    have := Nat.mul_le_mul_left y h3
    omega
  have h5 := Nat.mul_le_mul_right y h4
  rw [Nat.add_mul] at h5
  have h6 : x % y * y ≤ y * y := Nat.mul_le_mul_right _ (Nat.le_of_lt h1)
  rw [Nat.mul_comm y (x % y)]
  omega
structure Eu (n A B : Nat) (k x y : Nat) : Prop where
  g : Nat.gcd x y = Nat.gcd A B
  o : k = 0 ∨ y ≤ x
  p : x * y * 2 ^ k ≤ 2 ^ (n + n + 1)
  q : k = 0 → x * y ≤ 2 ^ (n + n)
  xl : x ≤ max A B
  yl : y ≤ max A B
theorem Eu.start {n A B : Nat} (ha : A < 2 ^ n) (hb : B < 2 ^ n) : Eu n A B 0 A B := by
  have h1 := Nat.mul_le_mul (Nat.le_of_lt ha) (Nat.le_of_lt hb)
  rw [← Nat.pow_add] at h1
  refine ⟨rfl, .inl rfl, ?_, fun _ => h1, Nat.le_max_left _ _, Nat.le_max_right _ _⟩
  rw [Nat.pow_zero, Nat.mul_one]
  exact Nat.le_trans h1 (Nat.pow_le_pow_right (by decide) (by omega))
theorem Eu.step {n A B k x y : Nat} (e : Eu n A B k x y) (hy : 0 < y) : Eu n A B (k + 1) y (x % y) := by
  refine ⟨by rw [← e.g, Nat.gcd_comm x y, Nat.gcd_rec y x, Nat.gcd_comm], .inr (Nat.le_of_lt (Nat.mod_lt _ hy)), ?_, fun h => absurd h (by omega), e.yl, Nat.le_trans (Nat.le_of_lt (Nat.mod_lt _ hy)) e.yl⟩
  rcases e.o with h | h
  · subst h
    have h1 : y * (x % y) ≤ x * y := by rw [Nat.mul_comm]; exact Nat.mul_le_mul_right _ (Nat.mod_le _ _)
    have h2 := e.q rfl
    have e1 : (2 : Nat) ^ (0 + 1) = 2 := by decide
    rw [e1, Nat.pow_succ]
    exact Nat.mul_le_mul_right _ (Nat.le_trans h1 h2)
  · have h1 := euclid_half h hy
    have h2 := e.p
    rw [Nat.pow_succ, Nat.mul_comm (2 ^ k) 2, ← Nat.mul_assoc, Nat.mul_comm _ 2]
    exact Nat.le_trans (Nat.mul_le_mul_right _ h1) h2
theorem Eu.few {n A B k x y : Nat} (e : Eu n A B k x y) (hk : n + n + 2 ≤ k) : y = 0 := by
  rcases Nat.eq_zero_or_pos y with h | h
  · exact h
  exfalso
  have hx : y ≤ x := by
    rcases e.o with h2 | h2
    · omega
    · exact h2
  have h1 : 1 ≤ x * y := Nat.mul_pos (by omega) h
  have h2 : 2 ^ (n + n + 1 + 1) ≤ 2 ^ k := Nat.pow_le_pow_right (by decide) (by omega)
  have h3 : 1 * 2 ^ k ≤ x * y * 2 ^ k := Nat.mul_le_mul_right _ h1
  have h4 := e.p
  rw [Nat.pow_succ] at h2
  have h6 : 0 < (2 : Nat) ^ (n + n + 1) := Nat.pow_pos (by decide)
  generalize (2 : Nat) ^ (n + n + 1) = q at *
  omega
theorem four_words {a : Nat} (h : (List.length (words a)) ≤ 4) : a < 2 ^ (64 * 4) := by rw [← W_pow]; exact lt_pow_of h
theorem gcd_ne1 {x : Nat} : ((sgn ((x : Int) - 1)) = 0) ↔ x = 1 := by rw [sgn_eq0]; omega
/-! ### the elements of a field -/
theorem of_word {z : Int} {p : Nat} (hp : 0 < p) (hl : p < 18446744073709551616) : (if (z % (p : Int)).natAbs < 18446744073709551616 then (z % (p : Int)).natAbs else 0) = (z % (p : Int)).toNat := by
  have h1 := Int.emod_nonneg z (show (p : Int) ≠ 0 by omega)
  have h2 := Int.emod_lt_of_pos z (show 0 < (p : Int) by omega)
  rw [if_pos (by omega)]; omega
theorem toNat_lt {z : Int} {p : Nat} (hp : 0 < p) : (z % (p : Int)).toNat < p := by
  have h1 := Int.emod_nonneg z (show (p : Int) ≠ 0 by omega)
  have h2 := Int.emod_lt_of_pos z (show 0 < (p : Int) by omega)
  omega
theorem of_cong {z : Int} {p : Nat} (hp : 0 < p) : (p : Int) ∣ z - (((z % (p : Int)).toNat : Nat) : Int) := by
  have h1 := Int.emod_nonneg z (show (p : Int) ≠ 0 by omega)
  rw [Int.toNat_of_nonneg h1]
  exact ⟨z / p, by have := Int.mul_ediv_add_emod z p; omega⟩
theorem of_add (x y : Int) {p : Nat} (hp : 0 < p) : ((x + y) % (p : Int)).toNat = ((x % (p : Int)).toNat % p + (y % (p : Int)).toNat % p) % p := by
  have hx := Int.emod_nonneg x (show (p : Int) ≠ 0 by omega)
  have hy := Int.emod_nonneg y (show (p : Int) ≠ 0 by omega)
  have hs := Int.emod_nonneg (x + y) (show (p : Int) ≠ 0 by omega)
  rw [Nat.mod_eq_of_lt (toNat_lt hp), Nat.mod_eq_of_lt (toNat_lt hp)]
  apply Int.ofNat_inj.1
  rw [Int.natCast_emod, Int.natCast_add, Int.toNat_of_nonneg hx, Int.toNat_of_nonneg hy, Int.toNat_of_nonneg hs, ← Int.add_emod]
theorem of_mul (x y : Int) {p : Nat} (hp : 0 < p) : ((x * y) % (p : Int)).toNat = (x % (p : Int)).toNat * (y % (p : Int)).toNat % p := by
  have hx := Int.emod_nonneg x (show (p : Int) ≠ 0 by omega)
  have hy := Int.emod_nonneg y (show (p : Int) ≠ 0 by omega)
  have hs := Int.emod_nonneg (x * y) (show (p : Int) ≠ 0 by omega)
  apply Int.ofNat_inj.1
  rw [Int.natCast_emod, Int.natCast_mul, Int.toNat_of_nonneg hx, Int.toNat_of_nonneg hy, Int.toNat_of_nonneg hs, ← Int.mul_emod]
theorem of_neg (x : Int) {p : Nat} (hp : 0 < p) : ((-x) % (p : Int)).toNat = (p - (x % (p : Int)).toNat % p) % p := by
  have hx := Int.emod_nonneg x (show (p : Int) ≠ 0 by omega)
  have hs := Int.emod_nonneg (-x) (show (p : Int) ≠ 0 by omega)
  have hl := toNat_lt (z := x) hp
  rw [Nat.mod_eq_of_lt hl]
  apply Int.ofNat_inj.1
  rw [Int.natCast_emod, Int.natCast_sub (Nat.le_of_lt hl), Int.toNat_of_nonneg hx, Int.toNat_of_nonneg hs]
  have := Int.sub_emod (p : Int) x p
  rw [Int.emod_self, Int.zero_sub] at this
  have e1 : ((p : Int) - x) % p = (-x) % p := by rw [show (p : Int) - x = -x + p by omega, Int.add_emod_right]
  have e2 : ((p : Int) - x % p) % p = (-(x % p)) % p := by rw [show (p : Int) - x % p = -(x % p) + p by omega, Int.add_emod_right]
  rw [e2, ← this, e1]
end Go.Nt
/- Whole numbers in the program: a sign and words. -/
namespace Go.En
open Go.RowKit Go.Nt
set_option linter.unusedVariables false
abbrev isZ (z : Int) : VP := Flat [isB (decide (z < 0)), SlM isU (words z.natAbs)]
abbrev zM (k : Nat) (z : Int) : Option Nat × MP := (some k, cellM [isB (decide (z < 0)), SlM isU (words z.natAbs)])
theorem isZ_eq {z z' : Int} (h : z = z') : isZ z = isZ z' := h ▸ rfl
theorem isZ_of {n : Bool} {xs : List Nat} {z : Int} (h : n = decide (z < 0)) (h2 : xs = words z.natAbs) : Flat [isB n, SlM isU xs] = isZ z := by subst h; subst h2; rfl
theorem isZ0 : Flat [isB false, SlM isU []] = isZ 0 := isZ_of (by decide) (by rw [Int.natAbs_zero, words_zero])
abbrev isR (z : Int) : VP := Flat [isB (decide (z < 0)), SlM isN (digs z.natAbs)]
abbrev rM (k : Nat) (z : Int) : Option Nat × MP := (some k, cellM [isB (decide (z < 0)), SlM isN (digs z.natAbs)])
theorem isR_eq {z z' : Int} (h : z = z') : isR z = isR z' := h ▸ rfl
theorem isR_of {n : Bool} {xs : List Nat} {z : Int} (h : n = decide (z < 0)) (h2 : xs = digs z.natAbs) : Flat [isB n, SlM isN xs] = isR z := by subst h; subst h2; rfl
section
variable {E : Env} {P : Program} {Γ : Ctx} {M : Mem} {x : Operand}
theorem Has.okZ {n : Bool} {xs : List Nat} (h : Has E Γ M x (Flat [isB n, SlM isU xs])) : ∀ a w F, Sat E Γ M a w F → (∀ y ∈ xs, y < 18446744073709551616) ∧ xs.length ≤ 9223372036854775807 := by
  intro a w F s
  obtain ⟨vs, e, hv⟩ := h a w F s
  obtain ⟨v, hv1, hv2⟩ := hv.get 1 (SlM isU xs) rfl
  obtain ⟨ad, cap, e, g1, g2, g3, g4⟩ := hv2
  refine ⟨fun y hy => ?_, by rw [maxLen_eq] at g2; omega⟩
  obtain ⟨i, hi, rfl⟩ := List.mem_iff_getElem.1 hy
  rcases g4 with g4 | ⟨b, off, _, _, vs, hv, _⟩
  · omega
  · obtain ⟨v, _, h2⟩ := hv.get i (isU xs[i]) (by simp [hi])
    exact h2.2
theorem Has.lt2 {a b : Nat} (h : Has E Γ M x (Flat [isU a, isU b])) : ∀ ac w F, Sat E Γ M ac w F → a < 18446744073709551616 ∧ b < 18446744073709551616 := by
  intro ac w F s
  obtain ⟨vs, e, hv⟩ := h ac w F s
  obtain ⟨v, hv1, hv2⟩ := hv.get 0 (isU a) rfl
  obtain ⟨v', hv3, hv4⟩ := hv.get 1 (isU b) rfl
  exact ⟨hv2.2, hv4.2⟩
theorem zM_eq {k : Nat} {z z' : Int} {r r' : Mem} (h : z = z') (h2 : r = r') : (zM k z :: r : Mem) = zM k z' :: r' := by subst h; subst h2; rfl
end
end Go.En
/- Contracts: whole numbers. -/
namespace Go.Proofs.Ytfoclelageohiaa
open Go.En Go.RowKit
set_option linter.unusedVariables false
set_option maxRecDepth 10000
open Go.Nt
set_option maxHeartbeats 4000000 in
theorem zint_From {xs : List Nat} {m : Bool} (hx : (List.length (words (val xs))) ≤ 4294967296) : Ctr Try.prog 102 [isWords xs, isB m] (isZ (zv m xs)) := by
  refine Ctr.intro Try.func102 rfl (by kernel_rfl) Try.ntmps102 rfl fun w0 F0 => ?_
  refine Tri.cv (Cv.wk (.cons (t := 0) (Has.t rfl) (.cons (t := 1) (Has.t rfl) .nil))) ?_
  refine Tri.fact (Has.lenLt (Has.t (t := 0) rfl)) fun lt0 => ?_
  refine Tri.fact (Has.okW (Has.t (t := 0) rfl)) fun ok0 => ?_
  refine Tri.seq fun K1 hK1 => ?_
  refine Tri.region ?_
  refine Ops.alloc [isB false, SlM isU []] zero59 (fun _ _ => ⟨rfl, nilM _ _, trivial⟩) rfl fun b1 => ?_
  refine nl ?_
  refine At.thn (hK1 _ _ ?_); clear hK1
  refine Tri.seq fun K2 hK2 => ?_
  refine Tri.region ?_
  refine st (OK1.mv (Has.t rfl)) rfl ?_
  refine st (OK1.call (nat_Norm (by first | with_reducible assumption | omega | (simp only [val_words, zv_nf]; omega) | (simp only [val_words]; exact Nat.le_trans (nw_small' (by omega)) (by decide)))) (.cons (Has.t rfl) .nil)) rfl ?_
  refine st (OK1.as (Has.t rfl)) rfl ?_
  refine nl ?_
  refine At.thn (hK2 _ _ ?_); clear hK2
  refine Tri.seq fun K3 hK3 => ?_
  refine Tri.region ?_
  refine st (OK1.mv (Has.t rfl)) rfl ?_
  refine st (OK1.mv (Has.t rfl)) rfl ?_
  refine stT rfl rfl (fun hg => have hg' := BP.t hg; OK1.mv (Has.t rfl)) rfl ?_
  refine stT rfl rfl (fun hg => have hg' := BP.t hg; OK1.len sl57 (Has.g rfl hg)) rfl ?_
  refine stT rfl rfl (fun hg => have hg' := BP.t hg; OK1.gtI (Has.g rfl hg) (Has.cI 0 rfl)) rfl ?_
  refine st (OK1.pickAnd (Has.t rfl) (fun h => Has.g rfl h)) rfl ?_
  refine st (OK1.mv (Has.t rfl)) rfl ?_
  refine st (OK1.build [isB false, SlM isU []] pl59 zero59 (fun _ _ => ⟨rfl, nilM _ _, trivial⟩) (.cons (Has.t rfl) rfl rfl rfl (.cons (Has.t rfl) rfl rfl rfl .nil)) (Z'' := [_, _]) rfl) rfl ?_
  refine Ops.store (Has.t rfl) (Has.t rfl) (i := 0) rfl ty59 rfl rfl (Ss' := [_, _]) rfl (M' := [(some _, cellM [_, _])]) rfl ?_
  refine nl ?_
  refine At.thn (hK3 _ _ ?_); clear hK3
  refine Tri.cv (Cv.wk (.cons (t := 4) (Has.t rfl) .nil)) ?_
  refine Tri.ret ?_
  refine rt1 (.inl rfl) Try.results102 rfl (.cell rfl (i := 0) rfl ty59 rfl ?_ .nil)
  · exact isZ_of (from_neg m xs) (by rw [zv_abs])
set_option maxHeartbeats 4000000 in
theorem zint_Of {x : Int} : Ctr Try.prog 60 [isI x] (isZ x) := by
  refine Ctr.intro Try.func60 rfl (by kernel_rfl) Try.ntmps60 rfl fun w0 F0 => ?_
  refine Tri.cv (Cv.wk (.cons (t := 0) (Has.t rfl) .nil)) ?_
  refine Tri.fact (Has.rngI (Has.t (t := 0) rfl)) fun lt0 => ?_
  refine Tri.seq fun K1 hK1 => ?_
  refine Tri.region ?_
  refine Ops.alloc [isB false, SlM isU []] zero59 (fun _ _ => ⟨rfl, nilM _ _, trivial⟩) rfl fun b1 => ?_
  refine nl ?_
  refine At.thn (hK1 _ _ ?_); clear hK1
  refine Tri.seq fun K2 hK2 => ?_
  refine Tri.seq fun K3 hK3 => ?_
  refine Tri.region ?_
  refine st (OK1.mv (Has.t rfl)) rfl ?_
  refine st (OK1.ltI (Has.t rfl) (Has.cI 0 rfl)) rfl ?_
  refine nl ?_
  refine At.thn (hK3 _ _ ?_); clear hK3
  refine Tri.cond (Has.t rfl) (fun hc1 => ?_) (fun hc1 => ?_)
  · have hc1 := BP.t hc1
    have hN : x < 0 := hc1
    refine Tri.seq fun K4 hK4 => ?_
    refine Tri.region ?_
    refine st (OK1.mv (Has.t rfl)) rfl ?_
    refine st (OK1.convIUw un2 un27 (Has.t rfl)) rfl ?_
    refine st (OK1.eq (OK1.negU (Has.t rfl) (by first | with_reducible assumption | omega | (simp only [val_words, zv_nf]; omega) | (simp only [val_words]; exact Nat.le_trans (nw_small' (by omega)) (by decide)))) ((show isU _ = isU x.natAbs from isU_eq (neg_word hc1 (by omega))))) rfl ?_
    refine st (OK1.call (nat_Of) (.cons (Has.t rfl) .nil)) rfl ?_
    refine st (OK1.call (zint_From (by first | with_reducible assumption | omega | (simp only [val_words, zv_nf]; omega) | (simp only [val_words]; exact Nat.le_trans (nw_small' (by omega)) (by decide)))) (.cons (Has.t rfl) (.cons (Has.cB true) .nil))) rfl ?_
    refine Ops.store (Has.t rfl) (Has.t rfl) (i := 0) rfl ty59 rfl rfl (Ss' := [_, _]) rfl (M' := [(some _, cellM [_, _])]) rfl ?_
    refine nl ?_
    refine At.thn (hK4 _ _ ?_); clear hK4
    refine Tri.cv (Cv.wk (.cons (t := 0) (Has.t rfl) (.cons (t := 2) (Has.t rfl) .nil))) ?_
    refine Tri.ret ?_
    refine At.thr ?_
    refine rt1 (.inl rfl) Try.results60 rfl (.cell rfl (i := 0) rfl ty59 rfl ?_ .nil)
    · exact isZ_eq (by rw [from_word, if_pos rfl]; omega)
  · have hc1 := BP.f hc1
    have hN : 0 ≤ x := (by omega)
    refine Tri.skip ?_
    refine At.thn (hK2 _ _ ?_); clear hK2
    refine Tri.seq fun K5 hK5 => ?_
    refine Tri.region ?_
    refine st (OK1.mv (Has.t rfl)) rfl ?_
    refine st (OK1.eq (OK1.convIU un2 un27 (Has.t rfl) (by first | with_reducible assumption | omega | (simp only [val_words, zv_nf]; omega) | (simp only [val_words]; exact Nat.le_trans (nw_small' (by omega)) (by decide))) (by first | with_reducible assumption | omega | (simp only [val_words, zv_nf]; omega) | (simp only [val_words]; exact Nat.le_trans (nw_small' (by omega)) (by decide)))) ((show isU _ = isU x.natAbs from isU_eq (by omega)))) rfl ?_
    refine st (OK1.call (nat_Of) (.cons (Has.t rfl) .nil)) rfl ?_
    refine st (OK1.call (zint_From (by first | with_reducible assumption | omega | (simp only [val_words, zv_nf]; omega) | (simp only [val_words]; exact Nat.le_trans (nw_small' (by omega)) (by decide)))) (.cons (Has.t rfl) (.cons (Has.cB false) .nil))) rfl ?_
    refine Ops.store (Has.t rfl) (Has.t rfl) (i := 0) rfl ty59 rfl rfl (Ss' := [_, _]) rfl (M' := [(some _, cellM [_, _])]) rfl ?_
    refine nl ?_
    refine At.thn (hK5 _ _ ?_); clear hK5
    refine Tri.cv (Cv.wk (.cons (t := 2) (Has.t rfl) .nil)) ?_
    refine Tri.ret ?_
    refine rt1 (.inl rfl) Try.results60 rfl (.cell rfl (i := 0) rfl ty59 rfl ?_ .nil)
    · exact isZ_eq (by rw [from_word, if_neg (by decide)]; omega)
set_option maxHeartbeats 4000000 in
theorem zint_Sign {m : Bool} {xs : List Nat} (hx : (List.length (words (val xs))) < 4294900000) : Ctr Try.prog 45 [Flat [isB m, isWords xs]] (isI (sgn (zv m xs))) := by
  refine Ctr.intro Try.func45 rfl (by kernel_rfl) Try.ntmps45 rfl fun w0 F0 => ?_
  refine Tri.cv (Cv.wk (.cons (t := 0) (Has.t rfl) .nil)) ?_
  refine Tri.fact (Has.okZ (Has.t (t := 0) rfl)) fun okz0 => ?_
  refine Tri.seq fun K1 hK1 => ?_
  refine Tri.region ?_
  refine Ops.box (Has.t rfl) rfl fun b1 => ?_
  refine st (OK1.as (Has.cI 0 rfl)) rfl ?_
  refine nl ?_
  refine At.thn (hK1 _ _ ?_); clear hK1
  refine Tri.seq fun K2 hK2 => ?_
  refine Tri.block ?_
  refine Tri.seq fun K3 hK3 => ?_
  refine Tri.region ?_
  refine st (OK1.fieldAddr (Has.t rfl) fld59_1 ty57) rfl ?_
  refine st (OK1.load1 (Has.t rfl) (i := 0) rfl ty57 rfl) rfl ?_
  refine st (OK1.call (nat_Bits (by first | with_reducible assumption | omega | (simp only [val_words, zv_nf]; omega) | (simp only [val_words]; exact Nat.le_trans (nw_small' (by omega)) (by decide)))) (.cons (Has.t rfl) .nil)) rfl ?_
  refine st (OK1.eqI (Has.t rfl) (Has.cI 0 rfl)) rfl ?_
  refine st (OK1.as (Has.t rfl)) rfl ?_
  refine nl ?_
  refine At.thn (hK3 _ _ ?_); clear hK3
  refine Tri.cv (Cv.wk (.cons (t := 1) (Has.t rfl) (.cons (t := 2) (Has.t rfl) (.cons (t := 3) (Has.t rfl) .nil)))) ?_
  refine Tri.cond (Has.t rfl) (fun hc1 => ?_) (fun hc1 => ?_)
  · have hc1 := BP.t hc1
    refine Tri.seq fun K4 hK4 => ?_
    refine Tri.region ?_
    refine st (OK1.as (Has.cI 0 rfl)) rfl ?_
    refine nl ?_
    refine At.thn (hK4 _ _ ?_); clear hK4
    refine Tri.ret ?_
    refine At.blr ?_
    refine At.thr ?_
    refine rt1 (.inl rfl) Try.results45 rfl (.tmp (Has.t' rfl ?_) .nil)
    all_goals (exact isI_eq (sgn_zero hc1))
  · have hc1 := BP.f hc1
    refine Tri.seq fun K5 hK5 => ?_
    refine Tri.region ?_
    refine st (OK1.fieldAddr (Has.t rfl) fld59_0 ty4) rfl ?_
    refine st (OK1.load1 (Has.t rfl) (i := 0) rfl ty4 rfl) rfl ?_
    refine st (OK1.as (Has.t rfl)) rfl ?_
    refine nl ?_
    refine At.thn (hK5 _ _ ?_); clear hK5
    refine Tri.cond (Has.t rfl) (fun hc2 => ?_) (fun hc2 => ?_)
    · have hc2 := BP.t hc2
      have HM := hc2
      refine Tri.seq fun K6 hK6 => ?_
      refine Tri.region ?_
      refine st (OK1.as (Has.cI (-1) rfl)) rfl ?_
      refine nl ?_
      refine At.thn (hK6 _ _ ?_); clear hK6
      refine Tri.cv (Cv.wk (.cons (t := 2) (Has.t rfl) .nil)) ?_
      refine Tri.ret ?_
      refine At.blr ?_
      refine At.thr ?_
      refine rt1 (.inl rfl) Try.results45 rfl (.tmp (Has.t' rfl ?_) .nil)
      all_goals (exact isI_eq (by rw [← sgn_of hc1, if_pos HM]))
    · have hc2 := BP.f hc2
      have HM := hc2
      refine Tri.skip ?_
      refine At.bln ?_
      refine At.thn (hK2 _ _ ?_); clear hK2
      refine Tri.cv (Cv.wk (.cons (t := 2) (Has.t rfl) .nil)) ?_
      refine Tri.seq fun K7 hK7 => ?_
      refine Tri.region ?_
      refine st (OK1.as (Has.cI 1 rfl)) rfl ?_
      refine nl ?_
      refine At.thn (hK7 _ _ ?_); clear hK7
      refine Tri.ret ?_
      refine rt1 (.inl rfl) Try.results45 rfl (.tmp (Has.t' rfl ?_) .nil)
      all_goals (exact isI_eq (by rw [← sgn_of hc1, if_neg (by rw [HM]; decide)]))
set_option maxHeartbeats 4000000 in
theorem zint_Cmp {m n : Bool} {xs ys : List Nat} (hx : (List.length (words (val xs))) < 4294700000) (hy : (List.length (words (val ys))) < 4294700000) : Ctr Try.prog 58 [Flat [isB m, isWords xs], Flat [isB n, isWords ys]] (isI (cmpZ (zv m xs) (zv n ys))) := by
  refine Ctr.intro Try.func58 rfl (by kernel_rfl) Try.ntmps58 rfl fun w0 F0 => ?_
  refine Tri.cv (Cv.wk (.cons (t := 0) (Has.t rfl) (.cons (t := 1) (Has.t rfl) .nil))) ?_
  refine Tri.fact (Has.okZ (Has.t (t := 0) rfl)) fun okz0 => ?_
  refine Tri.fact (Has.okZ (Has.t (t := 1) rfl)) fun okz1 => ?_
  refine Tri.seq fun K1 hK1 => ?_
  refine Tri.region ?_
  refine Ops.box (Has.t rfl) rfl fun b1 => ?_
  refine Ops.box (Has.t rfl) rfl fun b2 => ?_
  refine st (OK1.as (Has.cI 0 rfl)) rfl ?_
  refine nl ?_
  refine At.thn (hK1 _ _ ?_); clear hK1
  refine Tri.seq fun K2 hK2 => ?_
  refine Tri.dr ?_
  refine DrG.st (i := 0) [] rfl rfl rfl (by kernel_rfl) (OKG.o rfl (OK1.load (Has.t rfl) (i := 1) rfl ty59 rfl (Ss' := [_, _]) rfl)) ?_
  refine DrG.st (i := 1) [7] rfl rfl rfl (by kernel_rfl) (OKG.o rfl (OK1.call (zint_Sign (by first | with_reducible assumption | omega | (simp only [val_words, zv_nf]; omega) | (simp only [val_words]; exact Nat.le_trans (nw_small' (by omega)) (by decide)))) (.cons (Has.t rfl) .nil))) ?_
  refine DrG.st (i := 2) [] rfl rfl rfl (by kernel_rfl) (OKG.o rfl (OK1.load (Has.t rfl) (i := 0) rfl ty59 rfl (Ss' := [_, _]) rfl)) ?_
  refine DrG.fin (n := 3) mixed (by kernel_rfl) (by kernel_rfl) (by kernel_rfl) ?_
  refine Ops.cv (Cv.wk (.cons (t := 2) (Has.t rfl) (.cons (t := 3) (Has.t rfl) (.cons (t := 4) (Has.t rfl) (.cons (t := 8) (Has.t rfl) (.cons (t := 9) (Has.t rfl) .nil)))))) ?_
  refine st (OK1.call (zint_Sign (by first | with_reducible assumption | omega | (simp only [val_words, zv_nf]; omega) | (simp only [val_words]; exact Nat.le_trans (nw_small' (by omega)) (by decide)))) (.cons (Has.t rfl) .nil)) rfl ?_
  refine st (OK1.as (Has.t rfl)) rfl ?_
  refine st (OK1.as (Has.t rfl)) rfl ?_
  refine nl ?_
  refine At.thn (hK2 _ _ ?_); clear hK2
  refine Tri.seq fun K3 hK3 => ?_
  refine Tri.block ?_
  refine Tri.seq fun K4 hK4 => ?_
  refine Tri.region ?_
  refine st (OK1.mv (Has.t rfl)) rfl ?_
  refine st (OK1.mv (Has.t rfl)) rfl ?_
  refine st (OK1.ltI (Has.t rfl) (Has.t rfl)) rfl ?_
  refine st (OK1.as (Has.t rfl)) rfl ?_
  refine nl ?_
  refine At.thn (hK4 _ _ ?_); clear hK4
  refine Tri.cv (Cv.wk (.cons (t := 2) (Has.t rfl) (.cons (t := 3) (Has.t rfl) (.cons (t := 4) (Has.t rfl) (.cons (t := 5) (Has.t rfl) (.cons (t := 6) (Has.t rfl) (.cons (t := 11) (Has.t rfl) .nil))))))) ?_
  refine Tri.cond (Has.t rfl) (fun hc1 => ?_) (fun hc1 => ?_)
  · have hc1 := BP.t hc1
    refine Tri.seq fun K5 hK5 => ?_
    refine Tri.region ?_
    refine st (OK1.as (Has.cI (-1) rfl)) rfl ?_
    refine nl ?_
    refine At.thn (hK5 _ _ ?_); clear hK5
    refine Tri.ret ?_
    refine At.blr ?_
    refine At.thr ?_
    refine rt1 (.inl rfl) Try.results58 rfl (.tmp (Has.t' rfl ?_) .nil)
    all_goals (exact isI_eq (cmpZ_lt hc1))
  · have hc1 := BP.f hc1
    refine Tri.seq fun K6 hK6 => ?_
    refine Tri.region ?_
    refine st (OK1.mv (Has.t rfl)) rfl ?_
    refine st (OK1.mv (Has.t rfl)) rfl ?_
    refine st (OK1.gtI (Has.t rfl) (Has.t rfl)) rfl ?_
    refine st (OK1.as (Has.t rfl)) rfl ?_
    refine nl ?_
    refine At.thn (hK6 _ _ ?_); clear hK6
    refine Tri.cv (Cv.wk (.cons (t := 2) (Has.t rfl) (.cons (t := 3) (Has.t rfl) (.cons (t := 4) (Has.t rfl) (.cons (t := 5) (Has.t rfl) (.cons (t := 15) (Has.t rfl) .nil)))))) ?_
    refine Tri.cond (Has.t rfl) (fun hc2 => ?_) (fun hc2 => ?_)
    · have hc2 := BP.t hc2
      refine Tri.seq fun K7 hK7 => ?_
      refine Tri.region ?_
      refine st (OK1.as (Has.cI 1 rfl)) rfl ?_
      refine nl ?_
      refine At.thn (hK7 _ _ ?_); clear hK7
      refine Tri.ret ?_
      refine At.blr ?_
      refine At.thr ?_
      refine rt1 (.inl rfl) Try.results58 rfl (.tmp (Has.t' rfl ?_) .nil)
      all_goals (exact isI_eq (cmpZ_gt hc2))
    · have hc2 := BP.f hc2
      refine Tri.seq fun K8 hK8 => ?_
      refine Tri.region ?_
      refine st (OK1.mv (Has.t rfl)) rfl ?_
      refine st (OK1.ltI (Has.t rfl) (Has.cI 0 rfl)) rfl ?_
      refine st (OK1.as (Has.t rfl)) rfl ?_
      refine nl ?_
      refine At.thn (hK8 _ _ ?_); clear hK8
      refine Tri.cond (Has.t rfl) (fun hc3 => ?_) (fun hc3 => ?_)
      · have hc3 := BP.t hc3
        refine Tri.seq fun K9 hK9 => ?_
        refine Tri.region ?_
        refine st (OK1.fieldAddr (Has.t rfl) fld59_1 ty57) rfl ?_
        refine st (OK1.load1 (Has.t rfl) (i := 0) rfl ty57 rfl) rfl ?_
        refine st (OK1.fieldAddr (Has.t rfl) fld59_1 ty57) rfl ?_
        refine st (OK1.load1 (Has.t rfl) (i := 1) rfl ty57 rfl) rfl ?_
        refine st (OK1.call (nat_Cmp) (.cons (Has.t rfl) (.cons (Has.t rfl) .nil))) rfl ?_
        refine st (OK1.as (Has.t rfl)) rfl ?_
        refine nl ?_
        refine At.thn (hK9 _ _ ?_); clear hK9
        refine Tri.cv (Cv.wk (.cons (t := 2) (Has.t rfl) (.cons (t := 3) (Has.t rfl) (.cons (t := 4) (Has.t rfl) .nil)))) ?_
        refine Tri.ret ?_
        refine At.blr ?_
        refine At.thr ?_
        refine rt1 (.inl rfl) Try.results58 rfl (.tmp (Has.t' rfl ?_) .nil)
        all_goals (exact isI_eq (cmpZ_neg hc3 (by omega) (by omega)))
      · have hc3 := BP.f hc3
        refine Tri.skip ?_
        refine At.bln ?_
        refine At.thn (hK3 _ _ ?_); clear hK3
        refine Tri.cv (Cv.wk (.cons (t := 2) (Has.t rfl) (.cons (t := 3) (Has.t rfl) (.cons (t := 4) (Has.t rfl) .nil)))) ?_
        refine Tri.seq fun K10 hK10 => ?_
        refine Tri.region ?_
        refine st (OK1.fieldAddr (Has.t rfl) fld59_1 ty57) rfl ?_
        refine st (OK1.load1 (Has.t rfl) (i := 1) rfl ty57 rfl) rfl ?_
        refine st (OK1.fieldAddr (Has.t rfl) fld59_1 ty57) rfl ?_
        refine st (OK1.load1 (Has.t rfl) (i := 0) rfl ty57 rfl) rfl ?_
        refine st (OK1.call (nat_Cmp) (.cons (Has.t rfl) (.cons (Has.t rfl) .nil))) rfl ?_
        refine st (OK1.as (Has.t rfl)) rfl ?_
        refine nl ?_
        refine At.thn (hK10 _ _ ?_); clear hK10
        refine Tri.cv (Cv.wk (.cons (t := 4) (Has.t rfl) .nil)) ?_
        refine Tri.ret ?_
        refine rt1 (.inl rfl) Try.results58 rfl (.tmp (Has.t' rfl ?_) .nil)
        all_goals (exact isI_eq (cmpZ_pos (by omega) (by omega) (by omega)))
set_option maxHeartbeats 4000000 in
theorem zint_Same {m n : Bool} {xs ys : List Nat} (hx : (List.length (words (val xs))) < 4294700000) (hy : (List.length (words (val ys))) < 4294700000) : Ctr Try.prog 46 [Flat [isB m, isWords xs], Flat [isB n, isWords ys]] (isB (decide (zv m xs = zv n ys))) := by
  refine Ctr.intro Try.func46 rfl (by kernel_rfl) Try.ntmps46 rfl fun w0 F0 => ?_
  refine Tri.cv (Cv.wk (.cons (t := 0) (Has.t rfl) (.cons (t := 1) (Has.t rfl) .nil))) ?_
  refine Tri.fact (Has.okZ (Has.t (t := 0) rfl)) fun okz0 => ?_
  refine Tri.fact (Has.okZ (Has.t (t := 1) rfl)) fun okz1 => ?_
  refine Tri.seq fun K1 hK1 => ?_
  refine Tri.region ?_
  refine Ops.box (Has.t rfl) rfl fun b1 => ?_
  refine Ops.box (Has.t rfl) rfl fun b2 => ?_
  refine st (OK1.as (Has.cB false)) rfl ?_
  refine nl ?_
  refine At.thn (hK1 _ _ ?_); clear hK1
  refine Tri.seq fun K2 hK2 => ?_
  refine Tri.region ?_
  refine st (OK1.load (Has.t rfl) (i := 1) rfl ty59 rfl (Ss' := [_, _]) rfl) rfl ?_
  refine st (OK1.load (Has.t rfl) (i := 0) rfl ty59 rfl (Ss' := [_, _]) rfl) rfl ?_
  refine st (OK1.call (zint_Cmp (by first | with_reducible assumption | omega | (simp only [val_words, zv_nf]; omega) | (simp only [val_words]; exact Nat.le_trans (nw_small' (by omega)) (by decide))) (by first | with_reducible assumption | omega | (simp only [val_words, zv_nf]; omega) | (simp only [val_words]; exact Nat.le_trans (nw_small' (by omega)) (by decide)))) (.cons (Has.t rfl) (.cons (Has.t rfl) .nil))) rfl ?_
  refine st (OK1.eqI (Has.t rfl) (Has.cI 0 rfl)) rfl ?_
  refine st (OK1.as (Has.t rfl)) rfl ?_
  refine nl ?_
  refine At.thn (hK2 _ _ ?_); clear hK2
  refine Tri.cv (Cv.wk (.cons (t := 4) (Has.t rfl) .nil)) ?_
  refine Tri.ret ?_
  refine rt1 (.inl rfl) Try.results46 rfl (.tmp (Has.t' rfl ?_) .nil)
  all_goals (exact isB_eq (cmpZ_eq0 _ _))
set_option maxHeartbeats 4000000 in
theorem zint_Neg {m : Bool} {xs : List Nat} (hx : (List.length (words (val xs))) < 4294900000) : Ctr Try.prog 93 [Flat [isB m, isWords xs]] (isZ (-(zv m xs))) := by
  refine Ctr.intro Try.func93 rfl (by kernel_rfl) Try.ntmps93 rfl fun w0 F0 => ?_
  refine Tri.cv (Cv.wk (.cons (t := 0) (Has.t rfl) .nil)) ?_
  refine Tri.fact (Has.okZ (Has.t (t := 0) rfl)) fun okz0 => ?_
  refine Tri.seq fun K1 hK1 => ?_
  refine Tri.region ?_
  refine Ops.box (Has.t rfl) rfl fun b1 => ?_
  refine Ops.alloc [isB false, SlM isU []] zero59 (fun _ _ => ⟨rfl, nilM _ _, trivial⟩) rfl fun b2 => ?_
  refine nl ?_
  refine At.thn (hK1 _ _ ?_); clear hK1
  refine Tri.seq fun K2 hK2 => ?_
  refine Tri.region ?_
  refine st (OK1.fieldAddr (Has.t rfl) fld59_1 ty57) rfl ?_
  refine st (OK1.load1 (Has.t rfl) (i := 1) rfl ty57 rfl) rfl ?_
  refine st (OK1.fieldAddr (Has.t rfl) fld59_0 ty4) rfl ?_
  refine st (OK1.load1 (Has.t rfl) (i := 1) rfl ty4 rfl) rfl ?_
  refine st (OK1.not (Has.t rfl)) rfl ?_
  refine st (OK1.call (zint_From (by first | with_reducible assumption | omega | (simp only [val_words, zv_nf]; omega) | (simp only [val_words]; exact Nat.le_trans (nw_small' (by omega)) (by decide)))) (.cons (Has.t rfl) (.cons (Has.t rfl) .nil))) rfl ?_
  refine Ops.store (Has.t rfl) (Has.t rfl) (i := 0) rfl ty59 rfl rfl (Ss' := [_, _]) rfl (M' := [(some _, cellM [_, _]), _]) rfl ?_
  refine nl ?_
  refine At.thn (hK2 _ _ ?_); clear hK2
  refine Tri.cv (Cv.wk (.cons (t := 2) (Has.t rfl) .nil)) ?_
  refine Tri.ret ?_
  refine rt1 (.inl rfl) Try.results93 rfl (.cell rfl (i := 0) rfl ty59 rfl ?_ .nil)
  · exact isZ_eq (zv_not m xs)
set_option maxHeartbeats 4000000 in
theorem zint_Abs {m : Bool} {xs : List Nat} (hx : (List.length (words (val xs))) < 4294900000) : Ctr Try.prog 59 [Flat [isB m, isWords xs]] (isZ (((zv m xs).natAbs : Nat) : Int)) := by
  refine Ctr.intro Try.func59 rfl (by kernel_rfl) Try.ntmps59 rfl fun w0 F0 => ?_
  refine Tri.cv (Cv.wk (.cons (t := 0) (Has.t rfl) .nil)) ?_
  refine Tri.fact (Has.okZ (Has.t (t := 0) rfl)) fun okz0 => ?_
  refine Tri.seq fun K1 hK1 => ?_
  refine Tri.region ?_
  refine Ops.box (Has.t rfl) rfl fun b1 => ?_
  refine Ops.alloc [isB false, SlM isU []] zero59 (fun _ _ => ⟨rfl, nilM _ _, trivial⟩) rfl fun b2 => ?_
  refine nl ?_
  refine At.thn (hK1 _ _ ?_); clear hK1
  refine Tri.seq fun K2 hK2 => ?_
  refine Tri.region ?_
  refine st (OK1.fieldAddr (Has.t rfl) fld59_1 ty57) rfl ?_
  refine st (OK1.load1 (Has.t rfl) (i := 1) rfl ty57 rfl) rfl ?_
  refine st (OK1.call (zint_From (by first | with_reducible assumption | omega | (simp only [val_words, zv_nf]; omega) | (simp only [val_words]; exact Nat.le_trans (nw_small' (by omega)) (by decide)))) (.cons (Has.t rfl) (.cons (Has.cB false) .nil))) rfl ?_
  refine Ops.store (Has.t rfl) (Has.t rfl) (i := 0) rfl ty59 rfl rfl (Ss' := [_, _]) rfl (M' := [(some _, cellM [_, _]), _]) rfl ?_
  refine nl ?_
  refine At.thn (hK2 _ _ ?_); clear hK2
  refine Tri.cv (Cv.wk (.cons (t := 2) (Has.t rfl) .nil)) ?_
  refine Tri.ret ?_
  refine rt1 (.inl rfl) Try.results59 rfl (.cell rfl (i := 0) rfl ty59 rfl ?_ .nil)
  · exact isZ_eq (by rw [zv_abs]; exact zv_false xs)
set_option maxHeartbeats 4000000 in
theorem zint_Add {m n : Bool} {xs ys : List Nat} (hx : (List.length (words (val xs))) < 4294700000) (hy : (List.length (words (val ys))) < 4294700000) : Ctr Try.prog 96 [Flat [isB m, isWords xs], Flat [isB n, isWords ys]] (isZ (zv m xs + zv n ys)) := by
  refine Ctr.intro Try.func96 rfl (by kernel_rfl) Try.ntmps96 rfl fun w0 F0 => ?_
  refine Tri.cv (Cv.wk (.cons (t := 0) (Has.t rfl) (.cons (t := 1) (Has.t rfl) .nil))) ?_
  refine Tri.fact (Has.okZ (Has.t (t := 0) rfl)) fun okz0 => ?_
  refine Tri.fact (Has.okZ (Has.t (t := 1) rfl)) fun okz1 => ?_
  have ha := nw_add_le (val xs) (val ys)
  have hb := nw_mono (Nat.sub_le (val xs) (val ys))
  have hd := nw_mono (Nat.sub_le (val ys) (val xs))
  refine Tri.seq fun K1 hK1 => ?_
  refine Tri.region ?_
  refine Ops.box (Has.t rfl) rfl fun b1 => ?_
  refine Ops.box (Has.t rfl) rfl fun b2 => ?_
  refine Ops.alloc [isB false, SlM isU []] zero59 (fun _ _ => ⟨rfl, nilM _ _, trivial⟩) rfl fun b3 => ?_
  refine nl ?_
  refine At.thn (hK1 _ _ ?_); clear hK1
  refine Tri.seq fun K2 hK2 => ?_
  refine Tri.seq fun K3 hK3 => ?_
  refine Tri.region ?_
  refine st (OK1.fieldAddr (Has.t rfl) fld59_0 ty4) rfl ?_
  refine st (OK1.load1 (Has.t rfl) (i := 2) rfl ty4 rfl) rfl ?_
  refine st (OK1.fieldAddr (Has.t rfl) fld59_0 ty4) rfl ?_
  refine st (OK1.load1 (Has.t rfl) (i := 1) rfl ty4 rfl) rfl ?_
  refine st (OK1.eqB (du := un4) rfl (Has.t rfl) (Has.t rfl)) rfl ?_
  refine nl ?_
  refine At.thn (hK3 _ _ ?_); clear hK3
  refine Tri.cv (Cv.wk (.cons (t := 2) (Has.t rfl) (.cons (t := 3) (Has.t rfl) (.cons (t := 4) (Has.t rfl) (.cons (t := 13) (Has.t rfl) .nil))))) ?_
  refine Tri.cond (Has.t rfl) (fun hc1 => ?_) (fun hc1 => ?_)
  · have hc1 := BP.t hc1
    have HM : m = n := eq_of_beq hc1
    refine Tri.seq fun K4 hK4 => ?_
    refine Tri.dr ?_
    refine DrG.st (i := 0) [] rfl rfl rfl (by kernel_rfl) (OKG.o rfl (OK1.fieldAddr (Has.t rfl) fld59_1 ty57)) ?_
    refine DrG.st (i := 1) [14] rfl rfl rfl (by kernel_rfl) (OKG.o rfl (OK1.load1 (Has.t rfl) (i := 2) rfl ty57 rfl)) ?_
    refine DrG.st (i := 2) [] rfl rfl rfl (by kernel_rfl) (OKG.o rfl (OK1.fieldAddr (Has.t rfl) fld59_1 ty57)) ?_
    refine DrG.st (i := 3) [16] rfl rfl rfl (by kernel_rfl) (OKG.o rfl (OK1.load1 (Has.t rfl) (i := 1) rfl ty57 rfl)) ?_
    refine DrG.st (i := 4) [15, 17] rfl rfl rfl (by kernel_rfl) (OKG.o rfl (OK1.call (nat_Add (by first | with_reducible assumption | omega | (simp only [val_words, zv_nf]; omega) | (simp only [val_words]; exact Nat.le_trans (nw_small' (by omega)) (by decide))) (by first | with_reducible assumption | omega | (simp only [val_words, zv_nf]; omega) | (simp only [val_words]; exact Nat.le_trans (nw_small' (by omega)) (by decide)))) (.cons (Has.t rfl) (.cons (Has.t rfl) .nil)))) ?_
    refine DrG.st (i := 5) [] rfl rfl rfl (by kernel_rfl) (OKG.o rfl (OK1.fieldAddr (Has.t rfl) fld59_0 ty4)) ?_
    refine DrG.st (i := 6) [19] rfl rfl rfl (by kernel_rfl) (OKG.o rfl (OK1.load1 (Has.t rfl) (i := 2) rfl ty4 rfl)) ?_
    refine DrG.fin (n := 7) mixed (by kernel_rfl) (by kernel_rfl) (by kernel_rfl) ?_
    refine Ops.cv (Cv.wk (.cons (t := 2) (Has.t rfl) (.cons (t := 3) (Has.t rfl) (.cons (t := 4) (Has.t rfl) (.cons (t := 18) (Has.t rfl) (.cons (t := 20) (Has.t rfl) .nil)))))) ?_
    refine st (OK1.call (zint_From (by first | with_reducible assumption | omega | (simp only [val_words, zv_nf]; omega) | (simp only [val_words]; exact Nat.le_trans (nw_small' (by omega)) (by decide)))) (.cons (Has.t rfl) (.cons (Has.t rfl) .nil))) rfl ?_
    refine Ops.store (Has.t rfl) (Has.t rfl) (i := 0) rfl ty59 rfl rfl (Ss' := [_, _]) rfl (M' := [(some _, cellM [_, _]), _, _]) rfl ?_
    refine nl ?_
    refine At.thn (hK4 _ _ ?_); clear hK4
    refine Tri.ret ?_
    refine At.thr ?_
    refine rt1 (.inl rfl) Try.results96 rfl (.cell rfl (i := 0) rfl ty59 rfl ?_ .nil)
    · exact isZ_eq (zv_add_same HM xs ys).symm
  · have hc1 := BP.f hc1
    have HM : m ≠ n := fun e => by rw [e] at hc1; simp at hc1
    refine Tri.skip ?_
    refine At.thn (hK2 _ _ ?_); clear hK2
    refine Tri.seq fun K5 hK5 => ?_
    refine Tri.seq fun K6 hK6 => ?_
    refine Tri.region ?_
    refine st (OK1.fieldAddr (Has.t rfl) fld59_1 ty57) rfl ?_
    refine st (OK1.load1 (Has.t rfl) (i := 2) rfl ty57 rfl) rfl ?_
    refine st (OK1.fieldAddr (Has.t rfl) fld59_1 ty57) rfl ?_
    refine st (OK1.load1 (Has.t rfl) (i := 1) rfl ty57 rfl) rfl ?_
    refine st (OK1.call (nat_Sub (by first | with_reducible assumption | omega | (simp only [val_words, zv_nf]; omega) | (simp only [val_words]; exact Nat.le_trans (nw_small' (by omega)) (by decide)))) (.cons (Has.t rfl) (.cons (Has.t rfl) .nil))) rfl ?_
    refine st (OK1.mv (Has.t rfl)) rfl ?_
    refine st (OK1.ext (Has.t rfl) rfl) rfl ?_
    refine st (OK1.ext (Has.t rfl) rfl) rfl ?_
    refine st (OK1.as (Has.t rfl)) rfl ?_
    refine st (OK1.as (Has.t rfl)) rfl ?_
    refine nl ?_
    refine At.thn (hK6 _ _ ?_); clear hK6
    refine Tri.cv (Cv.wk (.cons (t := 2) (Has.t rfl) (.cons (t := 3) (Has.t rfl) (.cons (t := 4) (Has.t rfl) (.cons (t := 5) (Has.t rfl) (.cons (t := 6) (Has.t rfl) .nil)))))) ?_
    refine Tri.seq fun K7 hK7 => ?_
    refine Tri.region ?_
    refine st (OK1.mv (Has.t rfl)) rfl ?_
    refine nl ?_
    refine At.thn (hK7 _ _ ?_); clear hK7
    refine Tri.cond (Has.t rfl) (fun hc2 => ?_) (fun hc2 => ?_)
    · have hc2 := BP.t hc2
      have HL : val ys ≤ val xs := hc2
      refine Tri.seq fun K8 hK8 => ?_
      refine Tri.region ?_
      refine st (OK1.mv (Has.t rfl)) rfl ?_
      refine st (OK1.fieldAddr (Has.t rfl) fld59_0 ty4) rfl ?_
      refine st (OK1.load1 (Has.t rfl) (i := 2) rfl ty4 rfl) rfl ?_
      refine st (OK1.call (zint_From (by first | with_reducible assumption | omega | (simp only [val_words, zv_nf]; omega) | (simp only [val_words]; exact Nat.le_trans (nw_small' (by omega)) (by decide)))) (.cons (Has.t rfl) (.cons (Has.t rfl) .nil))) rfl ?_
      refine Ops.store (Has.t rfl) (Has.t rfl) (i := 0) rfl ty59 rfl rfl (Ss' := [_, _]) rfl (M' := [(some _, cellM [_, _]), _, _]) rfl ?_
      refine nl ?_
      refine At.thn (hK8 _ _ ?_); clear hK8
      refine Tri.cv (Cv.wk (.cons (t := 2) (Has.t rfl) (.cons (t := 3) (Has.t rfl) (.cons (t := 4) (Has.t rfl) .nil)))) ?_
      refine Tri.ret ?_
      refine At.thr ?_
      refine rt1 (.inl rfl) Try.results96 rfl (.cell rfl (i := 0) rfl ty59 rfl ?_ .nil)
      · exact isZ_eq (zv_add_sub HM HL).symm
    · have hc2 := BP.f hc2
      have HL : ¬ val ys ≤ val xs := (by omega)
      refine Tri.skip ?_
      refine At.thn (hK5 _ _ ?_); clear hK5
      refine Tri.seq fun K9 hK9 => ?_
      refine Tri.region ?_
      refine st (OK1.fieldAddr (Has.t rfl) fld59_1 ty57) rfl ?_
      refine st (OK1.load1 (Has.t rfl) (i := 1) rfl ty57 rfl) rfl ?_
      refine st (OK1.fieldAddr (Has.t rfl) fld59_1 ty57) rfl ?_
      refine st (OK1.load1 (Has.t rfl) (i := 2) rfl ty57 rfl) rfl ?_
      refine st (OK1.call (nat_Sub (by first | with_reducible assumption | omega | (simp only [val_words, zv_nf]; omega) | (simp only [val_words]; exact Nat.le_trans (nw_small' (by omega)) (by decide)))) (.cons (Has.t rfl) (.cons (Has.t rfl) .nil))) rfl ?_
      refine st (OK1.mv (Has.t rfl)) rfl ?_
      refine st (OK1.ext (Has.t rfl) rfl) rfl ?_
      refine st (OK1.ext (Has.t rfl) rfl) rfl ?_
      refine st (OK1.as (Has.t rfl)) rfl ?_
      refine st (OK1.as (Has.t rfl)) rfl ?_
      refine nl ?_
      refine At.thn (hK9 _ _ ?_); clear hK9
      refine Tri.cv (Cv.wk (.cons (t := 3) (Has.t rfl) (.cons (t := 4) (Has.t rfl) (.cons (t := 7) (Has.t rfl) .nil)))) ?_
      refine Tri.seq fun K10 hK10 => ?_
      refine Tri.region ?_
      refine st (OK1.mv (Has.t rfl)) rfl ?_
      refine st (OK1.fieldAddr (Has.t rfl) fld59_0 ty4) rfl ?_
      refine st (OK1.load1 (Has.t rfl) (i := 1) rfl ty4 rfl) rfl ?_
      refine st (OK1.call (zint_From (by first | with_reducible assumption | omega | (simp only [val_words, zv_nf]; omega) | (simp only [val_words]; exact Nat.le_trans (nw_small' (by omega)) (by decide)))) (.cons (Has.t rfl) (.cons (Has.t rfl) .nil))) rfl ?_
      refine Ops.store (Has.t rfl) (Has.t rfl) (i := 0) rfl ty59 rfl rfl (Ss' := [_, _]) rfl (M' := [(some _, cellM [_, _]), _, _]) rfl ?_
      refine nl ?_
      refine At.thn (hK10 _ _ ?_); clear hK10
      refine Tri.cv (Cv.wk (.cons (t := 4) (Has.t rfl) .nil)) ?_
      refine Tri.ret ?_
      refine rt1 (.inl rfl) Try.results96 rfl (.cell rfl (i := 0) rfl ty59 rfl ?_ .nil)
      · exact isZ_eq (by rw [Int.add_comm]; exact (zv_add_sub (fun e => HM e.symm) (by omega)).symm)
set_option maxHeartbeats 4000000 in
theorem zint_Sub {m n : Bool} {xs ys : List Nat} (hx : (List.length (words (val xs))) < 4294700000) (hy : (List.length (words (val ys))) < 4294700000) : Ctr Try.prog 158 [Flat [isB m, isWords xs], Flat [isB n, isWords ys]] (isZ (zv m xs - zv n ys)) := by
  refine Ctr.intro Try.func158 rfl (by kernel_rfl) Try.ntmps158 rfl fun w0 F0 => ?_
  refine Tri.cv (Cv.wk (.cons (t := 0) (Has.t rfl) (.cons (t := 1) (Has.t rfl) .nil))) ?_
  refine Tri.fact (Has.okZ (Has.t (t := 0) rfl)) fun okz0 => ?_
  refine Tri.fact (Has.okZ (Has.t (t := 1) rfl)) fun okz1 => ?_
  refine Tri.seq fun K1 hK1 => ?_
  refine Tri.region ?_
  refine Ops.box (Has.t rfl) rfl fun b1 => ?_
  refine Ops.box (Has.t rfl) rfl fun b2 => ?_
  refine Ops.alloc [isB false, SlM isU []] zero59 (fun _ _ => ⟨rfl, nilM _ _, trivial⟩) rfl fun b3 => ?_
  refine nl ?_
  refine At.thn (hK1 _ _ ?_); clear hK1
  refine Tri.seq fun K2 hK2 => ?_
  refine Tri.dr ?_
  refine DrG.st (i := 0) [] rfl rfl rfl (by kernel_rfl) (OKG.o rfl (OK1.load (Has.t rfl) (i := 2) rfl ty59 rfl (Ss' := [_, _]) rfl)) ?_
  refine DrG.st (i := 1) [] rfl rfl rfl (by kernel_rfl) (OKG.o rfl (OK1.load (Has.t rfl) (i := 1) rfl ty59 rfl (Ss' := [_, _]) rfl)) ?_
  refine DrG.st (i := 2) [6] rfl rfl rfl (by kernel_rfl) (OKG.o rfl (OK1.call (zint_Neg (by first | with_reducible assumption | omega | (simp only [val_words, zv_nf]; omega) | (simp only [val_words]; exact Nat.le_trans (nw_small' (by omega)) (by decide)))) (.cons (Has.t rfl) .nil))) ?_
  refine DrG.fin (n := 3) mixed (by kernel_rfl) (by kernel_rfl) (by kernel_rfl) ?_
  refine Ops.cv (Cv.wk (.cons (t := 4) (Has.t rfl) (.cons (t := 5) (Has.t rfl) (.cons (t := 7) (Has.t rfl) .nil)))) ?_
  refine st (OK1.call (zint_Add (by omega) (by simp only [val_words]; rw [Int.natAbs_neg, zv_abs]; omega)) (.cons (Has.t rfl) (.cons (Has.t rfl) .nil))) rfl ?_
  refine Ops.store (Has.t rfl) (Has.t rfl) (i := 0) rfl ty59 rfl rfl (Ss' := [_, _]) rfl (M' := [(some _, cellM [_, _]), _, _]) rfl ?_
  refine nl ?_
  refine At.thn (hK2 _ _ ?_); clear hK2
  refine Tri.ret ?_
  refine rt1 (.inl rfl) Try.results158 rfl (.cell rfl (i := 0) rfl ty59 rfl ?_ .nil)
  · exact isZ_eq (by rw [zv_nf]; omega)
set_option maxHeartbeats 4000000 in
theorem zint_Mul {m n : Bool} {xs ys : List Nat} (hx : (List.length (words (val xs))) ≤ 1000000000) (hy : (List.length (words (val ys))) ≤ 1000000000) : Ctr Try.prog 50 [Flat [isB m, isWords xs], Flat [isB n, isWords ys]] (isZ (zv m xs * zv n ys)) := by
  refine Ctr.intro Try.func50 rfl (by kernel_rfl) Try.ntmps50 rfl fun w0 F0 => ?_
  refine Tri.cv (Cv.wk (.cons (t := 0) (Has.t rfl) (.cons (t := 1) (Has.t rfl) .nil))) ?_
  refine Tri.fact (Has.okZ (Has.t (t := 0) rfl)) fun okz0 => ?_
  refine Tri.fact (Has.okZ (Has.t (t := 1) rfl)) fun okz1 => ?_
  have hm := nw_mul_le (val xs) (val ys)
  refine Tri.seq fun K1 hK1 => ?_
  refine Tri.region ?_
  refine Ops.box (Has.t rfl) rfl fun b1 => ?_
  refine Ops.box (Has.t rfl) rfl fun b2 => ?_
  refine Ops.alloc [isB false, SlM isU []] zero59 (fun _ _ => ⟨rfl, nilM _ _, trivial⟩) rfl fun b3 => ?_
  refine nl ?_
  refine At.thn (hK1 _ _ ?_); clear hK1
  refine Tri.seq fun K2 hK2 => ?_
  refine Tri.dr ?_
  refine DrG.st (i := 0) [] rfl rfl rfl (by kernel_rfl) (OKG.o rfl (OK1.fieldAddr (Has.t rfl) fld59_1 ty57)) ?_
  refine DrG.st (i := 1) [5] rfl rfl rfl (by kernel_rfl) (OKG.o rfl (OK1.load1 (Has.t rfl) (i := 2) rfl ty57 rfl)) ?_
  refine DrG.st (i := 2) [] rfl rfl rfl (by kernel_rfl) (OKG.o rfl (OK1.fieldAddr (Has.t rfl) fld59_1 ty57)) ?_
  refine DrG.st (i := 3) [7] rfl rfl rfl (by kernel_rfl) (OKG.o rfl (OK1.load1 (Has.t rfl) (i := 1) rfl ty57 rfl)) ?_
  refine DrG.st (i := 4) [6, 8] rfl rfl rfl (by kernel_rfl) (OKG.o rfl (OK1.call (mul_Mul hx hy) (.cons (Has.t rfl) (.cons (Has.t rfl) .nil)))) ?_
  refine DrG.st (i := 5) [] rfl rfl rfl (by kernel_rfl) (OKG.o rfl (OK1.fieldAddr (Has.t rfl) fld59_0 ty4)) ?_
  refine DrG.st (i := 6) [10] rfl rfl rfl (by kernel_rfl) (OKG.o rfl (OK1.load1 (Has.t rfl) (i := 2) rfl ty4 rfl)) ?_
  refine DrG.st (i := 7) [] rfl rfl rfl (by kernel_rfl) (OKG.o rfl (OK1.fieldAddr (Has.t rfl) fld59_0 ty4)) ?_
  refine DrG.st (i := 8) [12] rfl rfl rfl (by kernel_rfl) (OKG.o rfl (OK1.load1 (Has.t rfl) (i := 1) rfl ty4 rfl)) ?_
  refine DrG.st (i := 9) [11, 13] rfl rfl rfl (by kernel_rfl) (OKG.o rfl (OK1.neB (du := un4) rfl (Has.t rfl) (Has.t rfl))) ?_
  refine DrG.fin (n := 10) mixed (by kernel_rfl) (by kernel_rfl) (by kernel_rfl) ?_
  refine Ops.cv (Cv.wk (.cons (t := 4) (Has.t rfl) (.cons (t := 9) (Has.t rfl) (.cons (t := 14) (Has.t rfl) .nil)))) ?_
  refine st (OK1.call (zint_From (by first | with_reducible assumption | omega | (simp only [val_words, zv_nf]; omega) | (simp only [val_words]; exact Nat.le_trans (nw_small' (by omega)) (by decide)))) (.cons (Has.t rfl) (.cons (Has.t rfl) .nil))) rfl ?_
  refine Ops.store (Has.t rfl) (Has.t rfl) (i := 0) rfl ty59 rfl rfl (Ss' := [_, _]) rfl (M' := [(some _, cellM [_, _]), _, _]) rfl ?_
  refine nl ?_
  refine At.thn (hK2 _ _ ?_); clear hK2
  refine Tri.ret ?_
  refine rt1 (.inl rfl) Try.results50 rfl (.cell rfl (i := 0) rfl ty59 rfl ?_ .nil)
  · exact isZ_eq (zv_mul m n xs ys).symm
set_option maxHeartbeats 4000000 in
theorem zint_Quo {m n : Bool} {xs ys : List Nat} (hx : (List.length (words (val xs))) < 4294700000) (hy : (List.length (words (val ys))) < 4294700000) : Ctr Try.prog 157 [Flat [isB m, isWords xs], Flat [isB n, isWords ys]] (isTup [isZ ((zv m xs).tdiv (zv n ys)), isZ (if zv n ys = 0 then 0 else (zv m xs).tmod (zv n ys)), isB (decide (zv n ys ≠ 0))]) := by
  refine Ctr.intro Try.func157 rfl (by kernel_rfl) Try.ntmps157 rfl fun w0 F0 => ?_
  refine Tri.cv (Cv.wk (.cons (t := 0) (Has.t rfl) (.cons (t := 1) (Has.t rfl) .nil))) ?_
  refine Tri.fact (Has.okZ (Has.t (t := 0) rfl)) fun okz0 => ?_
  refine Tri.fact (Has.okZ (Has.t (t := 1) rfl)) fun okz1 => ?_
  have ha := nw_mono (Nat.div_le_self (val xs) (val ys))
  have hb : (List.length (words (if val ys = 0 then 0 else val xs % val ys))) ≤ (List.length (words (val xs))) := nw_mono (by split; exact Nat.zero_le _; exact Nat.mod_le _ _)
  refine Tri.seq fun K1 hK1 => ?_
  refine Tri.region ?_
  refine Ops.box (Has.t rfl) rfl fun b1 => ?_
  refine Ops.box (Has.t rfl) rfl fun b2 => ?_
  refine Ops.alloc [isB false, SlM isU []] zero59 (fun _ _ => ⟨rfl, nilM _ _, trivial⟩) rfl fun b3 => ?_
  refine Ops.alloc [isB false, SlM isU []] zero59 (fun _ _ => ⟨rfl, nilM _ _, trivial⟩) rfl fun b4 => ?_
  refine st (OK1.as (Has.cB false)) rfl ?_
  refine nl ?_
  refine At.thn (hK1 _ _ ?_); clear hK1
  refine Tri.seq fun K2 hK2 => ?_
  refine Tri.region ?_
  refine st (OK1.fieldAddr (Has.t rfl) fld59_1 ty57) rfl ?_
  refine st (OK1.load1 (Has.t rfl) (i := 3) rfl ty57 rfl) rfl ?_
  refine st (OK1.fieldAddr (Has.t rfl) fld59_1 ty57) rfl ?_
  refine st (OK1.load1 (Has.t rfl) (i := 2) rfl ty57 rfl) rfl ?_
  refine st (OK1.call (div_DivMod (by first | with_reducible assumption | omega | (simp only [val_words, zv_nf]; omega) | (simp only [val_words]; exact Nat.le_trans (nw_small' (by omega)) (by decide))) (by first | with_reducible assumption | omega | (simp only [val_words, zv_nf]; omega) | (simp only [val_words]; exact Nat.le_trans (nw_small' (by omega)) (by decide)))) (.cons (Has.t rfl) (.cons (Has.t rfl) .nil))) rfl ?_
  refine st (OK1.mv (Has.t rfl)) rfl ?_
  refine st (OK1.ext (Has.t rfl) rfl) rfl ?_
  refine st (OK1.ext (Has.t rfl) rfl) rfl ?_
  refine st (OK1.ext (Has.t rfl) rfl) rfl ?_
  refine st (OK1.as (Has.t rfl)) rfl ?_
  refine st (OK1.as (Has.t rfl)) rfl ?_
  refine st (OK1.as (Has.t rfl)) rfl ?_
  refine nl ?_
  refine At.thn (hK2 _ _ ?_); clear hK2
  refine Tri.cv (Cv.wk (.cons (t := 2) (Has.t rfl) (.cons (t := 3) (Has.t rfl) (.cons (t := 4) (Has.t rfl) (.cons (t := 5) (Has.t rfl) (.cons (t := 6) (Has.t rfl) (.cons (t := 7) (Has.t rfl) (.cons (t := 8) (Has.t rfl) (.cons (t := 9) (Has.t rfl) .nil))))))))) ?_
  refine Tri.seq fun K3 hK3 => ?_
  refine Tri.drh [false, false, true, true] (Ms := [_, _]) rfl ?_
  refine DrH.st (i := 0) [] rfl rfl rfl (by kernel_rfl) (OKG.o rfl (OK1.mv (Has.t rfl))) ?_
  refine DrH.st (i := 1) [] rfl rfl rfl (by kernel_rfl) (OKG.o rfl (OK1.fieldAddr (Has.t rfl) fld59_0 ty4)) ?_
  refine DrH.st (i := 2) [20] rfl rfl rfl (by kernel_rfl) (OKG.o rfl (OK1.load1 (Has.t rfl) (i := 1) rfl ty4 rfl)) ?_
  refine DrH.st (i := 3) [] rfl rfl rfl (by kernel_rfl) (OKG.o rfl (OK1.fieldAddr (Has.t rfl) fld59_0 ty4)) ?_
  refine DrH.st (i := 4) [22] rfl rfl rfl (by kernel_rfl) (OKG.o rfl (OK1.load1 (Has.t rfl) (i := 0) rfl ty4 rfl)) ?_
  refine DrH.st (i := 5) [21, 23] rfl rfl rfl (by kernel_rfl) (OKG.o rfl (OK1.neB (du := un4) rfl (Has.t rfl) (Has.t rfl))) ?_
  refine DrH.st (i := 6) [19, 24] rfl rfl rfl (by kernel_rfl) (OKG.o rfl (OK1.call (zint_From (by first | with_reducible assumption | omega | (simp only [val_words, zv_nf]; omega) | (simp only [val_words]; exact Nat.le_trans (nw_small' (by omega)) (by decide)))) (.cons (Has.t rfl) (.cons (Has.t rfl) .nil)))) ?_
  refine DrH.st (i := 7) [] rfl rfl rfl (by kernel_rfl) (OKG.o rfl (OK1.mv (Has.t rfl))) ?_
  refine DrH.st (i := 8) [] rfl rfl rfl (by kernel_rfl) (OKG.o rfl (OK1.fieldAddr (Has.t rfl) fld59_0 ty4)) ?_
  refine DrH.st (i := 9) [27] rfl rfl rfl (by kernel_rfl) (OKG.o rfl (OK1.load1 (Has.t rfl) (i := 1) rfl ty4 rfl)) ?_
  refine DrH.st (i := 10) [26, 28] rfl rfl rfl (by kernel_rfl) (OKG.o rfl (OK1.call (zint_From (by first | with_reducible assumption | omega | (simp only [val_words, zv_nf]; omega) | (simp only [val_words]; exact Nat.le_trans (nw_small' (by omega)) (by decide)))) (.cons (Has.t rfl) (.cons (Has.t rfl) .nil)))) ?_
  refine DrH.st (i := 11) [] rfl rfl rfl (by kernel_rfl) (OKG.o rfl (OK1.mv (Has.t rfl))) ?_
  refine DrH.mid (.cons _ (.cons _ (.cons_cons _ (.cons_cons _ .slnil)))) ?_
  refine DrM.st [25] rfl rfl (by kernel_rfl) (by kernel_rfl) (StS.store (Has.t rfl) (Has.t rfl) (i := 1) rfl ty59 rfl rfl (Ss' := [_, _]) rfl (M' := [_, (some _, cellM [_, _]), _, _]) rfl) (.cons _ (.cons _ (.cons_cons _ (.cons_cons _ .slnil)))) ?_
  refine DrM.st [29] rfl rfl (by kernel_rfl) (by kernel_rfl) (StS.store (Has.t rfl) (Has.t rfl) (i := 0) rfl ty59 rfl rfl (Ss' := [_, _]) rfl (M' := [(some _, cellM [_, _]), _, _, _]) rfl) (.cons _ (.cons _ (.cons_cons _ (.cons_cons _ .slnil)))) ?_
  refine DrM.fin (n := 14) mixed rfl (by kernel_rfl) (by kernel_rfl) (by kernel_rfl) ?_
  refine Ops.cv (Cv.wk (.cons (t := 4) (Has.t rfl) (.cons (t := 5) (Has.t rfl) (.cons (t := 6) (Has.t rfl) (.cons (t := 30) (Has.t rfl) .nil))))) ?_
  refine st (OK1.as (Has.t rfl)) rfl ?_
  refine nl ?_
  refine At.thn (hK3 _ _ ?_); clear hK3
  refine Tri.ret ?_
  refine rtN (.inl rfl) Try.results157 rfl rfl (.cell rfl (i := 1) rfl ty59 rfl ?_ (.cell rfl (i := 0) rfl ty59 rfl ?_ (.tmp (Has.t' rfl ?_) .nil)))
  · exact isZ_eq (zv_tdiv m n xs ys).symm
  · exact isZ_eq (quo_rest m n xs ys)
  · exact isB_eq (ne_zv n ys)
set_option maxHeartbeats 4000000 in
theorem zint_one  : Ctr Try.prog 159 [] (isZ 1) := by
  refine Ctr.intro Try.func159 rfl (by kernel_rfl) Try.ntmps159 rfl fun w0 F0 => ?_
  refine Tri.cv (Cv.wk .nil) ?_
  refine Tri.seq fun K1 hK1 => ?_
  refine Tri.region ?_
  refine Ops.alloc [isB false, SlM isU []] zero59 (fun _ _ => ⟨rfl, nilM _ _, trivial⟩) rfl fun b1 => ?_
  refine nl ?_
  refine At.thn (hK1 _ _ ?_); clear hK1
  refine Tri.seq fun K2 hK2 => ?_
  refine Tri.region ?_
  refine st (OK1.call (zint_Of) (.cons (Has.cI 1 rfl) .nil)) rfl ?_
  refine Ops.store (Has.t rfl) (Has.t rfl) (i := 0) rfl ty59 rfl rfl (Ss' := [_, _]) rfl (M' := [(some _, cellM [_, _])]) rfl ?_
  refine nl ?_
  refine At.thn (hK2 _ _ ?_); clear hK2
  refine Tri.ret ?_
  refine rt1 (.inl rfl) Try.results159 rfl (.cell rfl (i := 0) rfl ty59 rfl ?_ .nil)
  all_goals (rfl)
set_option maxHeartbeats 4000000 in
theorem zint_Euclid {m n : Bool} {xs ys : List Nat} (hx : (List.length (words (val xs))) < 4294700000) (hy : (List.length (words (val ys))) < 4294700000) : Ctr Try.prog 142 [Flat [isB m, isWords xs], Flat [isB n, isWords ys]] (isTup [isZ (zv m xs / zv n ys), isZ (if zv n ys = 0 then 0 else zv m xs % zv n ys), isB (decide (zv n ys ≠ 0))]) := by
  refine Ctr.intro Try.func142 rfl (by kernel_rfl) Try.ntmps142 rfl fun w0 F0 => ?_
  refine Tri.cv (Cv.wk (.cons (t := 0) (Has.t rfl) (.cons (t := 1) (Has.t rfl) .nil))) ?_
  refine Tri.fact (Has.okZ (Has.t (t := 0) rfl)) fun okz0 => ?_
  refine Tri.fact (Has.okZ (Has.t (t := 1) rfl)) fun okz1 => ?_
  have ha := nz_tdiv (zv m xs) (zv n ys)
  have hb := nz_if (zv m xs) (zv n ys)
  have hxx := zv_nw m xs
  have hyy := zv_nw n ys
  have h1 := nz_one
  refine Tri.seq fun K1 hK1 => ?_
  refine Tri.region ?_
  refine Ops.box (Has.t rfl) rfl fun b1 => ?_
  refine Ops.box (Has.t rfl) rfl fun b2 => ?_
  refine Ops.alloc [isB false, SlM isU []] zero59 (fun _ _ => ⟨rfl, nilM _ _, trivial⟩) rfl fun b3 => ?_
  refine Ops.alloc [isB false, SlM isU []] zero59 (fun _ _ => ⟨rfl, nilM _ _, trivial⟩) rfl fun b4 => ?_
  refine st (OK1.as (Has.cB false)) rfl ?_
  refine nl ?_
  refine At.thn (hK1 _ _ ?_); clear hK1
  refine Tri.seq fun K2 hK2 => ?_
  refine Tri.region ?_
  refine st (OK1.load (Has.t rfl) (i := 3) rfl ty59 rfl (Ss' := [_, _]) rfl) rfl ?_
  refine st (OK1.load (Has.t rfl) (i := 2) rfl ty59 rfl (Ss' := [_, _]) rfl) rfl ?_
  refine st (OK1.call (zint_Quo (by first | with_reducible assumption | omega | (simp only [val_words, zv_nf]; omega) | (simp only [val_words]; exact Nat.le_trans (nw_small' (by omega)) (by decide))) (by first | with_reducible assumption | omega | (simp only [val_words, zv_nf]; omega) | (simp only [val_words]; exact Nat.le_trans (nw_small' (by omega)) (by decide)))) (.cons (Has.t rfl) (.cons (Has.t rfl) .nil))) rfl ?_
  refine st (OK1.mv (Has.t rfl)) rfl ?_
  refine st (OK1.ext (Has.t rfl) rfl) rfl ?_
  refine st (OK1.ext (Has.t rfl) rfl) rfl ?_
  refine st (OK1.ext (Has.t rfl) rfl) rfl ?_
  refine Ops.alloc [isB false, SlM isU []] zero59 (fun _ _ => ⟨rfl, nilM _ _, trivial⟩) rfl fun b5 => ?_
  refine Ops.alloc [isB false, SlM isU []] zero59 (fun _ _ => ⟨rfl, nilM _ _, trivial⟩) rfl fun b6 => ?_
  refine Ops.store (Has.t rfl) (Has.t rfl) (i := 1) rfl ty59 rfl rfl (Ss' := [_, _]) rfl (M' := [_, (some _, cellM [_, _]), _, _, _, _]) rfl ?_
  refine Ops.store (Has.t rfl) (Has.t rfl) (i := 0) rfl ty59 rfl rfl (Ss' := [_, _]) rfl (M' := [(some _, cellM [_, _]), _, _, _, _, _]) rfl ?_
  refine st (OK1.as (Has.t rfl)) rfl ?_
  refine nl ?_
  refine At.thn (hK2 _ _ ?_); clear hK2
  refine Tri.cv (Cv.wk (.cons (t := 3) (Has.t rfl) (.cons (t := 4) (Has.t rfl) (.cons (t := 5) (Has.t rfl) (.cons (t := 6) (Has.t rfl) (.cons (t := 7) (Has.t rfl) (.cons (t := 8) (Has.t rfl) (.cons (t := 9) (Has.t rfl) .nil)))))))) ?_
  refine Tri.seq fun K3 hK3 => ?_
  refine Tri.block ?_
  refine Tri.seq fun K4 hK4 => ?_
  refine Tri.region ?_
  refine st (OK1.mv (Has.t rfl)) rfl ?_
  refine st (OK1.not (Has.t rfl)) rfl ?_
  refine st (OK1.mv (Has.t rfl)) rfl ?_
  refine stF rfl rfl (fun hg => have hg' := BP.t hg; OK1.load (Has.t rfl) (i := 0) rfl ty59 rfl (Ss' := [_, _]) rfl) rfl ?_
  refine stF rfl rfl (fun hg => have hg' := BP.t hg; OK1.eq (OK1.call (zint_Sign (by first | with_reducible assumption | omega | (simp only [val_words, zv_nf]; omega) | (simp only [val_words]; exact Nat.le_trans (nw_small' (by omega)) (by decide)))) (.cons (Has.g rfl hg) .nil)) (by first | (simp only [val_words, zv_nf]; rfl) | rfl)) rfl ?_
  refine stF rfl rfl (fun hg => have hg' := BP.t hg; OK1.geI (Has.g rfl hg) (Has.cI 0 rfl)) rfl ?_
  refine st (OK1.pickOr (Has.t rfl) (fun h => Has.g rfl (ng h))) rfl ?_
  refine st (OK1.as (Has.t rfl)) rfl ?_
  refine nl ?_
  refine At.thn (hK4 _ _ ?_); clear hK4
  refine Tri.cv (Cv.wk (.cons (t := 3) (Has.t rfl) (.cons (t := 4) (Has.t rfl) (.cons (t := 5) (Has.t rfl) (.cons (t := 6) (Has.t rfl) (.cons (t := 7) (Has.t rfl) (.cons (t := 8) (Has.t rfl) (.cons (t := 9) (Has.t rfl) (.cons (t := 17) (Has.t rfl) .nil))))))))) ?_
  refine Tri.cond (Has.t rfl) (fun hc1 => ?_) (fun hc1 => ?_)
  · have hc1 := BP.t hc1
    have HE := euc0 hc1
    refine Tri.seq fun K5 hK5 => ?_
    refine Tri.drh [true, true, false, false, true, true] (Ms := [_, _, _, _]) rfl ?_
    refine DrH.st (i := 0) [] rfl rfl rfl (by kernel_rfl) (OKG.o rfl (OK1.load (Has.t rfl) (i := 1) rfl ty59 rfl (Ss' := [_, _]) rfl)) ?_
    refine DrH.st (i := 1) [] rfl rfl rfl (by kernel_rfl) (OKG.o rfl (OK1.load (Has.t rfl) (i := 0) rfl ty59 rfl (Ss' := [_, _]) rfl)) ?_
    refine DrH.st (i := 2) [] rfl rfl rfl (by kernel_rfl) (OKG.o rfl (OK1.mv (Has.t rfl))) ?_
    refine DrH.mid (.cons_cons _ (.cons_cons _ (.cons _ (.cons _ (.cons_cons _ (.cons_cons _ .slnil)))))) ?_
    refine DrM.st [25] rfl rfl (by kernel_rfl) (by kernel_rfl) (StS.store (Has.t rfl) (Has.t rfl) (i := 3) rfl ty59 rfl rfl (Ss' := [_, _]) rfl (M' := [_, _, _, (some _, cellM [_, _]), _, _]) rfl) (.cons_cons _ (.cons_cons _ (.cons _ (.cons _ (.cons_cons _ (.cons_cons _ .slnil)))))) ?_
    refine DrM.st [26] rfl rfl (by kernel_rfl) (by kernel_rfl) (StS.store (Has.t rfl) (Has.t rfl) (i := 2) rfl ty59 rfl rfl (Ss' := [_, _]) rfl (M' := [_, _, (some _, cellM [_, _]), _, _, _]) rfl) (.cons_cons _ (.cons_cons _ (.cons _ (.cons _ (.cons_cons _ (.cons_cons _ .slnil)))))) ?_
    refine DrM.fin (n := 5) mixed rfl (by kernel_rfl) (by kernel_rfl) (by kernel_rfl) ?_
    refine Ops.cv (Cv.wk (.cons (t := 3) (Has.t rfl) (.cons (t := 4) (Has.t rfl) (.cons (t := 5) (Has.t rfl) (.cons (t := 6) (Has.t rfl) (.cons (t := 7) (Has.t rfl) (.cons (t := 8) (Has.t rfl) (.cons (t := 27) (Has.t rfl) .nil)))))))) ?_
    refine st (OK1.as (Has.t rfl)) rfl ?_
    refine nl ?_
    refine At.thn (hK5 _ _ ?_); clear hK5
    refine Tri.ret ?_
    refine At.blr ?_
    refine At.thr ?_
    refine rtN (.inl rfl) Try.results142 rfl rfl (.cell rfl (i := 3) rfl ty59 rfl ?_ (.cell rfl (i := 2) rfl ty59 rfl ?_ (.tmp (Has.t' rfl ?_) .nil)))
    · exact isZ_eq HE.1
    · exact isZ_eq HE.2
    · rfl
  · have hc1 := BP.f hc1
    have HE := hc1
    refine Tri.seq fun K6 hK6 => ?_
    refine Tri.region ?_
    refine st (OK1.load (Has.t rfl) (i := 4) rfl ty59 rfl (Ss' := [_, _]) rfl) rfl ?_
    refine st (OK1.call (zint_Sign (by first | with_reducible assumption | omega | (simp only [val_words, zv_nf]; omega) | (simp only [val_words]; exact Nat.le_trans (nw_small' (by omega)) (by decide)))) (.cons (Has.t rfl) .nil)) rfl ?_
    refine st (OK1.gtI (Has.t rfl) (Has.cI 0 rfl)) rfl ?_
    refine st (OK1.as (Has.t rfl)) rfl ?_
    refine nl ?_
    refine At.thn (hK6 _ _ ?_); clear hK6
    refine Tri.cv (Cv.wk (.cons (t := 3) (Has.t rfl) (.cons (t := 4) (Has.t rfl) (.cons (t := 5) (Has.t rfl) (.cons (t := 6) (Has.t rfl) (.cons (t := 7) (Has.t rfl) (.cons (t := 8) (Has.t rfl) (.cons (t := 28) (Has.t rfl) .nil)))))))) ?_
    refine Tri.cond (Has.t rfl) (fun hc2 => ?_) (fun hc2 => ?_)
    · have hc2 := BP.t hc2
      have HE2 := euc1 HE hc2
      refine Tri.seq fun K7 hK7 => ?_
      refine Tri.dr ?_
      refine DrG.st (i := 0) [] rfl rfl rfl (by kernel_rfl) (OKG.o rfl (OK1.load (Has.t rfl) (i := 1) rfl ty59 rfl (Ss' := [_, _]) rfl)) ?_
      refine DrG.st (i := 1) [] rfl rfl rfl (by kernel_rfl) (OKG.o rfl (OK1.call (zint_one) .nil)) ?_
      refine DrG.st (i := 2) [32, 33] rfl rfl rfl (by kernel_rfl) (OKG.o rfl (OK1.eq (OK1.call (zint_Sub (by first | with_reducible assumption | omega | (simp only [val_words, zv_nf]; omega) | (simp only [val_words]; exact Nat.le_trans (nw_small' (by omega)) (by decide))) (by first | with_reducible assumption | omega | (simp only [val_words, zv_nf]; omega) | (simp only [val_words]; exact Nat.le_trans (nw_small' (by omega)) (by decide)))) (.cons (Has.t rfl) (.cons (Has.t rfl) .nil))) (by first | (simp only [val_words, zv_nf]; rfl) | rfl))) ?_
      refine DrG.st (i := 3) [] rfl rfl rfl (by kernel_rfl) (OKG.o rfl (OK1.load (Has.t rfl) (i := 0) rfl ty59 rfl (Ss' := [_, _]) rfl)) ?_
      refine DrG.st (i := 4) [] rfl rfl rfl (by kernel_rfl) (OKG.o rfl (OK1.load (Has.t rfl) (i := 4) rfl ty59 rfl (Ss' := [_, _]) rfl)) ?_
      refine DrG.fin (n := 5) mixed (by kernel_rfl) (by kernel_rfl) (by kernel_rfl) ?_
      refine Ops.cv (Cv.wk (.cons (t := 3) (Has.t rfl) (.cons (t := 4) (Has.t rfl) (.cons (t := 5) (Has.t rfl) (.cons (t := 6) (Has.t rfl) (.cons (t := 7) (Has.t rfl) (.cons (t := 8) (Has.t rfl) (.cons (t := 34) (Has.t rfl) (.cons (t := 35) (Has.t rfl) (.cons (t := 36) (Has.t rfl) .nil)))))))))) ?_
      refine st (OK1.eq (OK1.call (zint_Add (by first | with_reducible assumption | omega | (simp only [val_words, zv_nf]; omega) | (simp only [val_words]; exact Nat.le_trans (nw_small' (by omega)) (by decide))) (by first | with_reducible assumption | omega | (simp only [val_words, zv_nf]; omega) | (simp only [val_words]; exact Nat.le_trans (nw_small' (by omega)) (by decide)))) (.cons (Has.t rfl) (.cons (Has.t rfl) .nil))) (by first | (simp only [val_words, zv_nf]; rfl) | rfl)) rfl ?_
      refine Ops.store (Has.t rfl) (Has.t rfl) (i := 3) rfl ty59 rfl rfl (Ss' := [_, _]) rfl (M' := [_, _, _, (some _, cellM [_, _]), _, _]) rfl ?_
      refine Ops.store (Has.t rfl) (Has.t rfl) (i := 2) rfl ty59 rfl rfl (Ss' := [_, _]) rfl (M' := [_, _, (some _, cellM [_, _]), _, _, _]) rfl ?_
      refine st (OK1.as (Has.cB true)) rfl ?_
      refine nl ?_
      refine At.thn (hK7 _ _ ?_); clear hK7
      refine Tri.ret ?_
      refine At.blr ?_
      refine At.thr ?_
      refine rtN (.inl rfl) Try.results142 rfl rfl (.cell rfl (i := 3) rfl ty59 rfl ?_ (.cell rfl (i := 2) rfl ty59 rfl ?_ (.tmp (Has.t' rfl ?_) .nil)))
      · exact isZ_eq HE2.1
      · exact isZ_eq HE2.2
      · exact isB_eq (decide_eq_true HE.1).symm
    · have hc2 := BP.f hc2
      have HE2 := euc2 HE hc2
      refine Tri.skip ?_
      refine At.bln ?_
      refine At.thn (hK3 _ _ ?_); clear hK3
      refine Tri.seq fun K8 hK8 => ?_
      refine Tri.dr ?_
      refine DrG.st (i := 0) [] rfl rfl rfl (by kernel_rfl) (OKG.o rfl (OK1.load (Has.t rfl) (i := 1) rfl ty59 rfl (Ss' := [_, _]) rfl)) ?_
      refine DrG.st (i := 1) [] rfl rfl rfl (by kernel_rfl) (OKG.o rfl (OK1.call (zint_one) .nil)) ?_
      refine DrG.st (i := 2) [38, 39] rfl rfl rfl (by kernel_rfl) (OKG.o rfl (OK1.eq (OK1.call (zint_Add (by first | with_reducible assumption | omega | (simp only [val_words, zv_nf]; omega) | (simp only [val_words]; exact Nat.le_trans (nw_small' (by omega)) (by decide))) (by first | with_reducible assumption | omega | (simp only [val_words, zv_nf]; omega) | (simp only [val_words]; exact Nat.le_trans (nw_small' (by omega)) (by decide)))) (.cons (Has.t rfl) (.cons (Has.t rfl) .nil))) (by first | (simp only [val_words, zv_nf]; rfl) | rfl))) ?_
      refine DrG.st (i := 3) [] rfl rfl rfl (by kernel_rfl) (OKG.o rfl (OK1.load (Has.t rfl) (i := 0) rfl ty59 rfl (Ss' := [_, _]) rfl)) ?_
      refine DrG.st (i := 4) [] rfl rfl rfl (by kernel_rfl) (OKG.o rfl (OK1.load (Has.t rfl) (i := 4) rfl ty59 rfl (Ss' := [_, _]) rfl)) ?_
      refine DrG.fin (n := 5) mixed (by kernel_rfl) (by kernel_rfl) (by kernel_rfl) ?_
      refine Ops.cv (Cv.wk (.cons (t := 4) (Has.t rfl) (.cons (t := 5) (Has.t rfl) (.cons (t := 6) (Has.t rfl) (.cons (t := 40) (Has.t rfl) (.cons (t := 41) (Has.t rfl) (.cons (t := 42) (Has.t rfl) .nil))))))) ?_
      refine st (OK1.eq (OK1.call (zint_Sub (by first | with_reducible assumption | omega | (simp only [val_words, zv_nf]; omega) | (simp only [val_words]; exact Nat.le_trans (nw_small' (by omega)) (by decide))) (by first | with_reducible assumption | omega | (simp only [val_words, zv_nf]; omega) | (simp only [val_words]; exact Nat.le_trans (nw_small' (by omega)) (by decide)))) (.cons (Has.t rfl) (.cons (Has.t rfl) .nil))) (by first | (simp only [val_words, zv_nf]; rfl) | rfl)) rfl ?_
      refine Ops.store (Has.t rfl) (Has.t rfl) (i := 3) rfl ty59 rfl rfl (Ss' := [_, _]) rfl (M' := [_, _, _, (some _, cellM [_, _]), _, _]) rfl ?_
      refine Ops.store (Has.t rfl) (Has.t rfl) (i := 2) rfl ty59 rfl rfl (Ss' := [_, _]) rfl (M' := [_, _, (some _, cellM [_, _]), _, _, _]) rfl ?_
      refine st (OK1.as (Has.cB true)) rfl ?_
      refine nl ?_
      refine At.thn (hK8 _ _ ?_); clear hK8
      refine Tri.ret ?_
      refine rtN (.inl rfl) Try.results142 rfl rfl (.cell rfl (i := 3) rfl ty59 rfl ?_ (.cell rfl (i := 2) rfl ty59 rfl ?_ (.tmp (Has.t' rfl ?_) .nil)))
      · exact isZ_eq HE2.1
      · exact isZ_eq HE2.2
      · exact isB_eq (decide_eq_true HE.1).symm
set_option maxHeartbeats 4000000 in
theorem zint_Exact {m n : Bool} {xs ys : List Nat} (hx : (List.length (words (val xs))) < 4294700000) (hy : (List.length (words (val ys))) < 4294700000) : Ctr Try.prog 161 [Flat [isB m, isWords xs], Flat [isB n, isWords ys]] (isTup [isZ (if zv n ys ≠ 0 ∧ (zv m xs).tmod (zv n ys) = 0 then (zv m xs).tdiv (zv n ys) else 0), isB (decide (zv n ys ≠ 0 ∧ (zv m xs).tmod (zv n ys) = 0))]) := by
  refine Ctr.intro Try.func161 rfl (by kernel_rfl) Try.ntmps161 rfl fun w0 F0 => ?_
  refine Tri.cv (Cv.wk (.cons (t := 0) (Has.t rfl) (.cons (t := 1) (Has.t rfl) .nil))) ?_
  refine Tri.fact (Has.okZ (Has.t (t := 0) rfl)) fun okz0 => ?_
  refine Tri.fact (Has.okZ (Has.t (t := 1) rfl)) fun okz1 => ?_
  have ha := nz_tdiv (zv m xs) (zv n ys)
  have hb := nz_if (zv m xs) (zv n ys)
  have hxx := zv_nw m xs
  have hyy := zv_nw n ys
  have h1 := nz_one
  refine Tri.seq fun K1 hK1 => ?_
  refine Tri.region ?_
  refine Ops.box (Has.t rfl) rfl fun b1 => ?_
  refine Ops.box (Has.t rfl) rfl fun b2 => ?_
  refine Ops.alloc [isB false, SlM isU []] zero59 (fun _ _ => ⟨rfl, nilM _ _, trivial⟩) rfl fun b3 => ?_
  refine st (OK1.as (Has.cB false)) rfl ?_
  refine nl ?_
  refine At.thn (hK1 _ _ ?_); clear hK1
  refine Tri.seq fun K2 hK2 => ?_
  refine Tri.region ?_
  refine st (OK1.load (Has.t rfl) (i := 2) rfl ty59 rfl (Ss' := [_, _]) rfl) rfl ?_
  refine st (OK1.load (Has.t rfl) (i := 1) rfl ty59 rfl (Ss' := [_, _]) rfl) rfl ?_
  refine st (OK1.call (zint_Quo (by first | with_reducible assumption | omega | (simp only [val_words, zv_nf]; omega) | (simp only [val_words]; exact Nat.le_trans (nw_small' (by omega)) (by decide))) (by first | with_reducible assumption | omega | (simp only [val_words, zv_nf]; omega) | (simp only [val_words]; exact Nat.le_trans (nw_small' (by omega)) (by decide)))) (.cons (Has.t rfl) (.cons (Has.t rfl) .nil))) rfl ?_
  refine st (OK1.mv (Has.t rfl)) rfl ?_
  refine st (OK1.ext (Has.t rfl) rfl) rfl ?_
  refine st (OK1.ext (Has.t rfl) rfl) rfl ?_
  refine st (OK1.ext (Has.t rfl) rfl) rfl ?_
  refine Ops.alloc [isB false, SlM isU []] zero59 (fun _ _ => ⟨rfl, nilM _ _, trivial⟩) rfl fun b4 => ?_
  refine Ops.alloc [isB false, SlM isU []] zero59 (fun _ _ => ⟨rfl, nilM _ _, trivial⟩) rfl fun b5 => ?_
  refine Ops.store (Has.t rfl) (Has.t rfl) (i := 1) rfl ty59 rfl rfl (Ss' := [_, _]) rfl (M' := [_, (some _, cellM [_, _]), _, _, _]) rfl ?_
  refine Ops.store (Has.t rfl) (Has.t rfl) (i := 0) rfl ty59 rfl rfl (Ss' := [_, _]) rfl (M' := [(some _, cellM [_, _]), _, _, _, _]) rfl ?_
  refine st (OK1.as (Has.t rfl)) rfl ?_
  refine nl ?_
  refine At.thn (hK2 _ _ ?_); clear hK2
  refine Tri.cv (Cv.wk (.cons (t := 4) (Has.t rfl) (.cons (t := 5) (Has.t rfl) (.cons (t := 6) (Has.t rfl) (.cons (t := 7) (Has.t rfl) (.cons (t := 8) (Has.t rfl) .nil)))))) ?_
  refine Tri.seq fun K3 hK3 => ?_
  refine Tri.seq fun K4 hK4 => ?_
  refine Tri.region ?_
  refine st (OK1.mv (Has.t rfl)) rfl ?_
  refine st (OK1.not (Has.t rfl)) rfl ?_
  refine st (OK1.mv (Has.t rfl)) rfl ?_
  refine stF rfl rfl (fun hg => have hg' := BP.t hg; OK1.load (Has.t rfl) (i := 0) rfl ty59 rfl (Ss' := [_, _]) rfl) rfl ?_
  refine stF rfl rfl (fun hg => have hg' := BP.t hg; OK1.eq (OK1.call (zint_Sign (by first | with_reducible assumption | omega | (simp only [val_words, zv_nf]; omega) | (simp only [val_words]; exact Nat.le_trans (nw_small' (by omega)) (by decide)))) (.cons (Has.g rfl hg) .nil)) (by first | (simp only [val_words, zv_nf]; rfl) | rfl)) rfl ?_
  refine stF rfl rfl (fun hg => have hg' := BP.t hg; OK1.neI (Has.g rfl hg) (Has.cI 0 rfl)) rfl ?_
  refine st (OK1.pickOr (Has.t rfl) (fun h => Has.g rfl (ng h))) rfl ?_
  refine nl ?_
  refine At.thn (hK4 _ _ ?_); clear hK4
  refine Tri.cv (Cv.wk (.cons (t := 4) (Has.t rfl) (.cons (t := 5) (Has.t rfl) (.cons (t := 6) (Has.t rfl) (.cons (t := 22) (Has.t rfl) .nil))))) ?_
  refine Tri.cond (Has.t rfl) (fun hc1 => ?_) (fun hc1 => ?_)
  · have hc1 := BP.t hc1
    have HE := ex_no hc1
    refine Tri.seq fun K5 hK5 => ?_
    refine Tri.region ?_
    refine st (OK1.eq (OK1.build [isB false, SlM isU []] pl59 zero59 (fun _ _ => ⟨rfl, nilM _ _, trivial⟩) .nil (Z'' := [_, _]) rfl) (isZ0)) rfl ?_
    refine Ops.store (Has.t rfl) (Has.t rfl) (i := 2) rfl ty59 rfl rfl (Ss' := [_, _]) rfl (M' := [_, _, (some _, cellM [_, _]), _, _]) rfl ?_
    refine st (OK1.as (Has.cB false)) rfl ?_
    refine nl ?_
    refine At.thn (hK5 _ _ ?_); clear hK5
    refine Tri.ret ?_
    refine At.thr ?_
    refine rtN (.inl rfl) Try.results161 rfl rfl (.cell rfl (i := 2) rfl ty59 rfl ?_ (.tmp (Has.t' rfl ?_) .nil))
    · exact isZ_eq (if_neg HE).symm
    · exact isB_eq (decide_eq_false HE).symm
  · have hc1 := BP.f hc1
    have HE := ex_yes hc1
    refine Tri.skip ?_
    refine At.thn (hK3 _ _ ?_); clear hK3
    refine Tri.seq fun K6 hK6 => ?_
    refine Tri.region ?_
    refine st (OK1.load (Has.t rfl) (i := 1) rfl ty59 rfl (Ss' := [_, _]) rfl) rfl ?_
    refine Ops.store (Has.t rfl) (Has.t rfl) (i := 2) rfl ty59 rfl rfl (Ss' := [_, _]) rfl (M' := [_, _, (some _, cellM [_, _]), _, _]) rfl ?_
    refine st (OK1.as (Has.cB true)) rfl ?_
    refine nl ?_
    refine At.thn (hK6 _ _ ?_); clear hK6
    refine Tri.ret ?_
    refine rtN (.inl rfl) Try.results161 rfl rfl (.cell rfl (i := 2) rfl ty59 rfl ?_ (.tmp (Has.t' rfl ?_) .nil))
    · exact isZ_eq (if_pos HE).symm
    · exact isB_eq (decide_eq_true HE).symm
end Go.Proofs.Ytfoclelageohiaa
/- Polynomials over the whole numbers: lists, their numbers, normal lists, products. No program here. -/
namespace Go.Pz
/-- the number of a power -/
def cf (l : List Int) (i : Nat) : Int := l.getD i 0
theorem cf_nil (i : Nat) : cf [] i = 0 := rfl
theorem cf_zero (a : Int) (l : List Int) : cf (a :: l) 0 = a := rfl
theorem cf_succ (a : Int) (l : List Int) (i : Nat) : cf (a :: l) (i + 1) = cf l i := rfl
theorem cf_high {l : List Int} {i : Nat} (h : l.length ≤ i) : cf l i = 0 := by
  unfold cf; rw [List.getD, List.getElem?_eq_none h]; rfl
/-- without noughts behind -/
def pnorm : List Int → List Int
  | [] => []
  | a :: l => if pnorm l = [] ∧ a = 0 then [] else a :: pnorm l
theorem cf_norm : ∀ (l : List Int) (i : Nat), cf (pnorm l) i = cf l i
  | [], i => rfl
  | a :: l, i => by
    unfold pnorm
    split
    · rename_i h
      cases i with
      | zero => rw [cf_zero, h.2]; rfl
      | succ i => rw [cf_succ, ← cf_norm l i, h.1]; rfl
    · cases i with
      | zero => rfl
      | succ i => rw [cf_succ, cf_succ, cf_norm l i]
theorem norm_nil {l : List Int} : pnorm l = [] ↔ ∀ i, cf l i = 0 := by
  constructor
  · intro h i; rw [← cf_norm, h]; rfl
  · induction l with
    | nil => intro _; rfl
    | cons a l ih =>
      intro h
      unfold pnorm
      rw [if_pos ⟨ih fun i => h (i + 1), h 0⟩]
theorem norm_ext : ∀ {a b : List Int}, (∀ i, cf a i = cf b i) → pnorm a = pnorm b
  | [], b, h => (norm_nil.2 fun i => (h i).symm).symm
  | x :: a, [], h => norm_nil.2 h
  | x :: a, y :: b, h => by
    have h1 : x = y := h 0
    have h2 := norm_ext fun i => h (i + 1)
    unfold pnorm
    rw [h1, h2]
theorem norm_norm (l : List Int) : pnorm (pnorm l) = pnorm l := norm_ext (cf_norm l)
theorem norm_len (l : List Int) : (pnorm l).length ≤ l.length := by
  induction l with
  | nil => exact Nat.le_refl _
  | cons a l ih =>
    unfold pnorm
    split
    · simp
    · simp; exact ih
theorem norm_last : ∀ {l : List Int}, pnorm l ≠ [] → cf l ((pnorm l).length - 1) ≠ 0
  | [], h => absurd rfl h
  | a :: l, h => by
    unfold pnorm at h ⊢
    by_cases hc : pnorm l = [] ∧ a = 0
    · rw [if_pos hc] at h; exact absurd rfl h
    · rw [if_neg hc]
      by_cases hl : pnorm l = []
      · rw [hl]; exact fun e => hc ⟨hl, e⟩
      · have hp : 0 < (pnorm l).length := List.length_pos_iff.2 hl
        rw [List.length_cons, Nat.add_sub_cancel, show (pnorm l).length = ((pnorm l).length - 1) + 1 by omega, cf_succ]
        exact norm_last hl
/-- as it is found from behind -/
theorem take_norm : ∀ {l : List Int} {n : Nat}, (n = 0 ∨ cf l (n - 1) ≠ 0) → (∀ i, n ≤ i → cf l i = 0) → l.take n = pnorm l
  | l, 0, _, h => by rw [norm_nil.2 fun i => h i (Nat.zero_le _)]; rfl
  | [], n + 1, h0, _ => by rcases h0 with h0 | h0 <;> first | omega | exact absurd rfl h0
  | a :: l, n + 1, h0, h => by
    have h1 : cf (a :: l) n ≠ 0 := h0.resolve_left (by omega)
    have h2 : l.take n = pnorm l := take_norm (by
      rcases Nat.eq_zero_or_pos n with e | e
      · exact .inl e
      · right; rw [show n = (n - 1) + 1 by omega, cf_succ] at h1; exact h1) fun i hi => h (i + 1) (by omega)
    have h3 : pnorm (a :: l) = if pnorm l = [] ∧ a = 0 then [] else a :: pnorm l := rfl
    rw [List.take_succ_cons, h2, h3, if_neg]
    rintro ⟨g1, g2⟩
    rcases Nat.eq_zero_or_pos n with e | e
    · subst e; exact h1 g2
    · rw [show n = (n - 1) + 1 by omega, cf_succ, norm_nil.1 g1] at h1
      exact h1 rfl
/-- products, by their numbers -/
def mul (f g : Nat → Int) : Nat → Int
  | 0 => f 0 * g 0
  | n + 1 => f 0 * g (n + 1) + mul (fun i => f (i + 1)) g n
theorem mul_congr {f f' g g' : Nat → Int} (h : ∀ i, f i = f' i) (k : ∀ i, g i = g' i) : ∀ n, mul f g n = mul f' g' n := by
  obtain rfl : f = f' := funext h
  obtain rfl : g = g' := funext k
  intro n; rfl
theorem mul_back : ∀ (n : Nat) (f g : Nat → Int), mul f g (n + 1) = mul f (fun i => g (i + 1)) n + f (n + 1) * g 0
  | 0, f, g => rfl
  | n + 1, f, g => by
    have h := mul_back n (fun i => f (i + 1)) g
    show f 0 * g (n + 2) + mul (fun i => f (i + 1)) g (n + 1) = (f 0 * g (n + 2) + mul (fun i => f (i + 1)) (fun i => g (i + 1)) n) + f (n + 2) * g 0
    rw [h]
    show _ = _ + f (n + 1 + 1) * g 0
    exact (Int.add_assoc _ _ _).symm
theorem mul_comm : ∀ (n : Nat) (f g : Nat → Int), mul f g n = mul g f n
  | 0, f, g => Int.mul_comm _ _
  | n + 1, f, g => by
    rw [mul_back, mul_comm n f, Int.mul_comm (f (n + 1))]
    show _ = g 0 * f (n + 1) + mul (fun i => g (i + 1)) f n
    omega
theorem add_mul (f f' g : Nat → Int)  (n : Nat) : mul (fun i => f i + f' i) g n = mul f g n + mul f' g n := by
    induction n generalizing f f' with
    | zero => exact Int.add_mul _ _ _
    | succ n ih =>
      have h := ih (fun i => f (i + 1)) (fun i => f' (i + 1))
      have e := Int.add_mul (f 0) (f' 0) (g (n + 1))
      show (f 0 + f' 0) * g (n + 1) + mul (fun i => f (i + 1) + f' (i + 1)) g n = _
      rw [h, e]
      show _ = (f 0 * g (n + 1) + mul (fun i => f (i + 1)) g n) + (f' 0 * g (n + 1) + mul (fun i => f' (i + 1)) g n)
      omega
theorem smul_mul (c : Int) (f g : Nat → Int)  (n : Nat) : mul (fun i => c * f i) g n = c * mul f g n := by
    induction n generalizing f with
    | zero => exact Int.mul_assoc _ _ _
    | succ n ih =>
      have h := ih (fun i => f (i + 1))
      show c * f 0 * g (n + 1) + mul (fun i => c * f (i + 1)) g n = c * (f 0 * g (n + 1) + mul (fun i => f (i + 1)) g n)
      rw [h, Int.mul_add, Int.mul_assoc]
theorem mul_add (f g g' : Nat → Int) (n : Nat) : mul f (fun i => g i + g' i) n = mul f g n + mul f g' n := by
  rw [mul_comm, add_mul, mul_comm n g, mul_comm n g']
theorem mul_smul (c : Int) (f g : Nat → Int) (n : Nat) : mul f (fun i => c * g i) n = c * mul f g n := by
  rw [mul_comm, smul_mul, mul_comm n g]
theorem mul_assoc (f g h : Nat → Int)  (n : Nat) : mul (mul f g) h n = mul f (mul g h) n := by
    induction n generalizing f g with
    | zero => exact Int.mul_assoc _ _ _
    | succ n ih =>
      show f 0 * g 0 * h (n + 1) + mul (fun i => f 0 * g (i + 1) + mul (fun i => f (i + 1)) g i) h n = f 0 * (g 0 * h (n + 1) + mul (fun i => g (i + 1)) h n) + mul (fun i => f (i + 1)) (mul g h) n
      rw [add_mul, smul_mul, ih, Int.mul_add, Int.mul_assoc]
      omega
theorem zero_mul (g : Nat → Int) (n : Nat) : mul (fun _ => 0) g n = 0 := by
  have h := smul_mul 0 (fun _ => 0) g n
  exact h.trans (Int.zero_mul _)
theorem mul_high : ∀ {n A B : Nat} {f g : Nat → Int}, (∀ i, A ≤ i → f i = 0) → (∀ i, B ≤ i → g i = 0) → A + B ≤ n + 1 → mul f g n = 0
  | n, 0, B, f, g, hf, hg, h => by rw [mul_congr (f' := fun _ => 0) (fun i => hf i (Nat.zero_le _)) (fun _ => rfl), zero_mul]
  | 0, A + 1, B, f, g, hf, hg, h => by
    show f 0 * g 0 = 0
    rw [hg 0 (by omega), Int.mul_zero]
  | n + 1, A + 1, B, f, g, hf, hg, h => by
    show f 0 * g (n + 1) + mul (fun i => f (i + 1)) g n = 0
    rw [mul_high (A := A) (B := B) (fun i hi => hf (i + 1) (by omega)) hg (by omega), hg (n + 1) (by omega), Int.mul_zero]
    rfl
/-- the greatest number of a product -/
theorem mul_top : ∀ {A B : Nat} {f g : Nat → Int}, (∀ i, A < i → f i = 0) → (∀ i, B < i → g i = 0) → mul f g (A + B) = f A * g B
  | 0, 0, f, g, _, _ => rfl
  | 0, B + 1, f, g, hf, hg => by
    rw [Nat.zero_add]
    show f 0 * g (B + 1) + mul (fun i => f (i + 1)) g B = _
    rw [mul_congr (f' := fun _ => 0) (fun i => hf (i + 1) (by omega)) (fun _ => rfl), zero_mul]; omega
  | A + 1, B, f, g, hf, hg => by
    rw [show A + 1 + B = (A + B) + 1 by omega]
    show f 0 * g (A + B + 1) + mul (fun i => f (i + 1)) g (A + B) = _
    rw [mul_top (fun i hi => hf (i + 1) (by omega)) hg, hg (A + B + 1) (by omega)]
    omega
end Go.Pz
/- Polynomials in the program: slices of whole numbers. -/
namespace Go.En
open Go.RowKit Go.Nt Go.Pz
set_option linter.unusedVariables false
abbrev nz (z : Int) : Bool × List Nat := (decide (z < 0), words z.natAbs)
/-- the numbers of signs with words -/
def vals (xs : List (Bool × List Nat)) : List Int := xs.map fun p => zv p.1 p.2
abbrev isP (l : List Int) : VP := SlK 2 zc (l.map nz)
theorem isP_eq {l l' : List Int} (h : l = l') : isP l = isP l' := h ▸ rfl
theorem isZ_zc (z : Int) : isZ z = Flat (zc (nz z)) := rfl
theorem nz_zero : nz 0 = (false, []) := by
  show (decide ((0 : Int) < 0), words (Int.natAbs 0)) = (false, [])
  rw [Int.natAbs_zero, words_zero]; rfl
theorem vals_nz (l : List Int) : vals (l.map nz) = l := by
  unfold vals
  rw [List.map_map]
  conv => rhs; rw [← List.map_id l]
  exact List.map_congr_left fun z _ => zv_nf z
theorem vals_len (xs : List (Bool × List Nat)) : (vals xs).length = xs.length := by unfold vals; rw [List.length_map]
theorem zv_dflt : zv false [] = 0 := by rw [zv_false]; rfl
theorem cf_vals (xs : List (Bool × List Nat)) (i : Nat) : cf (vals xs) i = zv (xs.getD i (false, [])).1 (xs.getD i (false, [])).2 := by
  unfold cf vals
  rw [List.getD, List.getD, List.getElem?_map]
  cases xs[i]? with
  | none => exact zv_dflt.symm
  | some p => rfl
theorem vals_take (xs : List (Bool × List Nat)) (n : Nat) : vals (xs.take n) = (vals xs).take n := by unfold vals; rw [List.map_take]
/-- a row that is filled from its beginning on -/
def fill {β : Type} (l : List β) (i : Nat) (z : β) : List β := l.take i ++ List.replicate (l.length - i) z
theorem fill_zero {β : Type} (l : List β) (z : β) : fill l 0 z = List.replicate l.length z := by simp [fill]
theorem fill_all {β : Type} (l : List β) (z : β) : fill l l.length z = l := by simp [fill]
theorem fill_len {β : Type} (l : List β) (i : Nat) (z : β) (h : i ≤ l.length) : (fill l i z).length = l.length := by
  unfold fill; rw [List.length_append, List.length_take, List.length_replicate]; omega
theorem fill_set {β : Type} (l : List β) (i : Nat) (z x : β) (h : l[i]? = some x) : (fill l i z).set i x = fill l (i + 1) z := by
  have hi : i < l.length := by
    rcases Nat.lt_or_ge i l.length with h1 | h1
    · exact h1
    · rw [List.getElem?_eq_none h1] at h; cases h
  rw [List.getElem?_eq_getElem hi] at h
  unfold fill
  rw [List.set_append_right _ _ (by rw [List.length_take]; omega), List.length_take, Nat.min_eq_left (by omega), Nat.sub_self, show l.length - i = (l.length - (i + 1)) + 1 by omega, List.replicate_succ, List.set_cons_zero,
    List.take_succ_eq_append_getElem hi, List.append_assoc, Option.some.inj h]; rfl
section
variable {E : Env} {P : Program} {Γ : Ctx} {M : Mem} {x : Operand}
theorem Has.okP {xs : List (Bool × List Nat)} (h : Has E Γ M x (SlK 2 zc xs)) : ∀ a w F, Sat E Γ M a w F → ∀ p ∈ xs, (∀ y ∈ p.2, y < 18446744073709551616) ∧ p.2.length ≤ 9223372036854775807 := by
  intro a w F s p hp
  obtain ⟨ad, cap, e, g1, g2, g3, g4⟩ := h a w F s
  obtain ⟨i, hi, rfl⟩ := List.mem_iff_getElem.1 hp
  rcases g4 with g4 | ⟨b, off, _, _, vs, hv, _⟩
  · omega
  · have hd := (hv.drop (i * 2)).take 2
    rw [flat_drop xs i xs[i] (fun y _ => zc_len y) (List.getElem?_eq_getElem hi)] at hd
    obtain ⟨v, _, ad, cap, e, g1, g2, g3, g4⟩ := hd.get 1 (isWords xs[i].2) rfl
    refine ⟨fun y hy => ?_, by rw [maxLen_eq] at g2; omega⟩
    obtain ⟨j, hj, rfl⟩ := List.mem_iff_getElem.1 hy
    rcases g4 with g4 | ⟨b, off, _, _, us, hu, _⟩
    · omega
    · obtain ⟨u, _, h2⟩ := hu.get j (isU xs[i].2[j]) (by simp [hj])
      exact h2.2
end
end Go.En
/- Polynomials over the whole numbers: what the program makes of them, list by list. No program here. -/
namespace Go.Pz
theorem cf_tab (n : Nat) (f : Nat → Int) (i : Nat) : cf ((List.range n).map f) i = if i < n then f i else 0 := by
  unfold cf
  rw [List.getD, List.getElem?_map]
  by_cases h : i < n
  · rw [List.getElem?_range h, if_pos h]; rfl
  · rw [List.getElem?_eq_none (by simpa using h), if_neg h]; rfl
def both (op : Int → Int → Int) (a b : List Int) : List Int := pnorm ((List.range (max a.length b.length)).map fun i => op (cf a i) (cf b i))
theorem cf_both {op : Int → Int → Int} (h : op 0 0 = 0) (a b : List Int) (i : Nat) : cf (both op a b) i = op (cf a i) (cf b i) := by
  unfold both
  rw [cf_norm, cf_tab]
  split
  · rfl
  · rw [cf_high (l := a) (by omega), cf_high (l := b) (by omega), h]
def padd (a b : List Int) : List Int := both (fun x y => x + y) a b
def psub (a b : List Int) : List Int := both (fun x y => x - y) a b
theorem cf_add (a b : List Int) (i : Nat) : cf (padd a b) i = cf a i + cf b i := cf_both (by rfl) a b i
theorem cf_sub (a b : List Int) (i : Nat) : cf (psub a b) i = cf a i - cf b i := cf_both (by rfl) a b i
def pscale (a : List Int) (c : Int) : List Int := pnorm (a.map fun x => x * c)
theorem cf_map (a : List Int) (c : Int) (i : Nat) : cf (a.map fun x => x * c) i = cf a i * c := by
  unfold cf
  rw [List.getD, List.getD, List.getElem?_map]
  cases a[i]? with
  | none => exact (Int.zero_mul c).symm
  | some x => rfl
theorem cf_scale (a : List Int) (c : Int) (i : Nat) : cf (pscale a c) i = cf a i * c := by unfold pscale; rw [cf_norm, cf_map]
def pshift (a : List Int) (n : Nat) : List Int := List.replicate n 0 ++ a
theorem cf_shift (a : List Int) (n i : Nat) : cf (pshift a n) i = if i < n then 0 else cf a (i - n) := by
  unfold cf pshift
  rw [List.getD]
  by_cases h : i < n
  · rw [List.getElem?_append_left (by simpa using h), if_pos h, List.getElem?_replicate, if_pos h]; rfl
  · rw [List.getElem?_append_right (by simpa using Nat.le_of_not_lt h), if_neg h, List.length_replicate]; rfl
/-- the numbers of a product: as they stand when so many rows are put in -/
def rows (f g : Nat → Int) : Nat → Nat → Int
  | 0, _ => 0
  | i + 1, n => rows f g i n + if i ≤ n then f i * g (n - i) else 0
theorem rows_front (f g : Nat → Int) : ∀ i n, rows f g (i + 1) (n + 1) = f 0 * g (n + 1) + rows (fun j => f (j + 1)) g i n
  | 0, n => by
    show 0 + (if 0 ≤ n + 1 then f 0 * g (n + 1 - 0) else 0) = f 0 * g (n + 1) + 0
    rw [if_pos (Nat.zero_le _), Int.zero_add, Int.add_zero]; rfl
  | i + 1, n => by
    have h := rows_front f g i n
    show rows f g (i + 1) (n + 1) + (if i + 1 ≤ n + 1 then f (i + 1) * g (n + 1 - (i + 1)) else 0) = f 0 * g (n + 1) + (rows (fun j => f (j + 1)) g i n + if i ≤ n then f (i + 1) * g (n - i) else 0)
    rw [h, Int.add_assoc]
    congr 2
    by_cases hi : i ≤ n
    · rw [if_pos hi, if_pos (by omega), Nat.succ_sub_succ]
    · rw [if_neg hi, if_neg (by omega)]
theorem rows_zero (f g : Nat → Int) : ∀ i, rows f g (i + 1) 0 = f 0 * g 0
  | 0 => by show 0 + (if 0 ≤ 0 then f 0 * g (0 - 0) else 0) = _; rw [if_pos (Nat.le_refl _), Int.zero_add]
  | i + 1 => by
    show rows f g (i + 1) 0 + (if i + 1 ≤ 0 then _ else 0) = _
    rw [rows_zero f g i, if_neg (by omega), Int.add_zero]
theorem mul_rows : ∀ (n : Nat) (f g : Nat → Int), mul f g n = rows f g (n + 1) n
  | 0, f, g => (rows_zero f g 0).symm
  | n + 1, f, g => by
    rw [rows_front, ← mul_rows n]; rfl
theorem rows_more (f g : Nat → Int) {A n : Nat} (h : ∀ i, A ≤ i → i ≤ n → f i = 0) : ∀ d, rows f g (A + d) n = rows f g A n
  | 0 => rfl
  | d + 1 => by
    show rows f g (A + d) n + (if A + d ≤ n then f (A + d) * g (n - (A + d)) else 0) = _
    rw [rows_more f g h d]
    split
    · rename_i hd; rw [h _ (by omega) hd, Int.zero_mul, Int.add_zero]
    · rw [Int.add_zero]
theorem rows_all {f g : Nat → Int} {A : Nat} (h : ∀ i, A ≤ i → f i = 0) (n : Nat) : rows f g A n = mul f g n := by
  rw [mul_rows]
  rcases Nat.le_total A (n + 1) with h1 | h1
  · have := rows_more f g (n := n) (fun i hi _ => h i hi) (n + 1 - A)
    rw [show A + (n + 1 - A) = n + 1 by omega] at this
    exact this.symm
  · have := rows_more f g (A := n + 1) (n := n) (fun i hi hn => by omega) (A - (n + 1))
    rwa [show n + 1 + (A - (n + 1)) = A by omega] at this
def pmul (a b : List Int) : List Int := if pnorm a = [] ∨ pnorm b = [] then [] else pnorm ((List.range ((pnorm a).length + (pnorm b).length - 1)).map fun n => mul (cf a) (cf b) n)
theorem high_norm {l : List Int} {i : Nat} (h : (pnorm l).length ≤ i) : cf l i = 0 := by rw [← cf_norm]; exact cf_high h
theorem cf_pmul (a b : List Int) (n : Nat) : cf (pmul a b) n = mul (cf a) (cf b) n := by
  unfold pmul
  split
  · rename_i h
    rcases h with h | h
    · rw [mul_congr (f' := fun _ => 0) (norm_nil.1 h) (fun _ => rfl), zero_mul]; rfl
    · rw [mul_comm, mul_congr (f' := fun _ => 0) (norm_nil.1 h) (fun _ => rfl), zero_mul]; rfl
  · rename_i h
    rw [cf_norm, cf_tab]
    split
    · rfl
    · have h1 : 0 < (pnorm a).length := List.length_pos_iff.2 fun e => h (.inl e)
      exact (mul_high (A := (pnorm a).length) (B := (pnorm b).length) (fun i hi => high_norm hi) (fun i hi => high_norm hi) (by omega)).symm
/-- the numbers of a product, as they stand while a row is put in -/
def rowV (f g : Nat → Int) (i k n : Nat) : Int := rows f g i n + if i ≤ n ∧ n < i + k then f i * g (n - i) else 0
def rowL (f g : Nat → Int) (N i k : Nat) : List Int := (List.range N).map (rowV f g i k)
theorem rowL_len (f g : Nat → Int) (N i k : Nat) : (rowL f g N i k).length = N := by unfold rowL; rw [List.length_map, List.length_range]
theorem rowL_get (f g : Nat → Int) {N n : Nat} (i k : Nat) (h : n < N) : (rowL f g N i k)[n]? = some (rowV f g i k n) := by
  unfold rowL; rw [List.getElem?_map, List.getElem?_range h]; rfl
theorem rowL_set (f g : Nat → Int) {N i k : Nat} (h : i + k < N) : (rowL f g N i k).set (i + k) (rowV f g i k (i + k) + f i * g k) = rowL f g N i (k + 1) := by
  apply List.ext_getElem?
  intro n
  rcases Nat.lt_or_ge n N with hn | hn
  · rw [rowL_get f g i (k + 1) hn]
    by_cases e : n = i + k
    · subst e
      rw [List.getElem?_set_self (by rw [rowL_len]; exact h)]
      unfold rowV
      rw [if_neg (by omega), if_pos (by omega), Int.add_zero, Nat.add_sub_cancel_left]
    · rw [List.getElem?_set_ne (fun e2 => e e2.symm), rowL_get f g i k hn]
      unfold rowV
      by_cases hc : i ≤ n ∧ n < i + k
      · rw [if_pos hc, if_pos (by omega)]
      · rw [if_neg hc, if_neg (by omega)]
  · rw [List.getElem?_eq_none (by rw [List.length_set, rowL_len]; exact hn), List.getElem?_eq_none (by rw [rowL_len]; exact hn)]
theorem rowL_next {f g : Nat → Int} {B : Nat} (hg : ∀ n, B ≤ n → g n = 0) (N i : Nat) : rowL f g N i B = rowL f g N (i + 1) 0 := by
  unfold rowL
  refine List.map_congr_left fun n _ => ?_
  show rows f g i n + (if i ≤ n ∧ n < i + B then f i * g (n - i) else 0) = (rows f g i n + if i ≤ n then f i * g (n - i) else 0) + (if i + 1 ≤ n ∧ n < i + 1 + 0 then _ else 0)
  rw [if_neg (show ¬ (i + 1 ≤ n ∧ n < i + 1 + 0) by omega), Int.add_zero]
  by_cases h1 : i ≤ n
  · by_cases h2 : n < i + B
    · rw [if_pos ⟨h1, h2⟩, if_pos h1]
    · rw [if_neg (fun h => h2 h.2), if_pos h1, hg _ (by omega), Int.mul_zero]
  · rw [if_neg (fun h => h1 h.1), if_neg h1]
theorem rowL_zero (f g : Nat → Int) (N : Nat) : rowL f g N 0 0 = List.replicate N 0 := by
  unfold rowL
  rw [List.eq_replicate_iff]
  refine ⟨by rw [List.length_map, List.length_range], fun z hz => ?_⟩
  obtain ⟨n, _, rfl⟩ := List.mem_map.1 hz
  unfold rowV
  rw [if_neg (by omega)]; rfl
theorem rowL_all {f g : Nat → Int} {A : Nat} (h : ∀ i, A ≤ i → f i = 0) (N : Nat) : rowL f g N A 0 = (List.range N).map fun n => mul f g n := by
  unfold rowL
  refine List.map_congr_left fun n _ => ?_
  unfold rowV
  rw [if_neg (by omega), Int.add_zero, rows_all h]
theorem pmul_rows {a b : List Int} (ha : pnorm a ≠ []) (hb : pnorm b ≠ []) : pmul a b = pnorm (rowL (cf (pnorm a)) (cf (pnorm b)) ((pnorm a).length + (pnorm b).length - 1) (pnorm a).length 0) := by
  unfold pmul
  rw [if_neg (fun h => h.elim ha hb), rowL_all (fun i hi => cf_high hi)]
  congr 1
  exact List.map_congr_left fun n _ => (mul_congr (cf_norm a) (cf_norm b) n).symm
/-- the value -/
def peval : List Int → Int → Int
  | [], _ => 0
  | a :: l, x => peval l x * x + a
end Go.Pz
/- Polynomials over the whole numbers: quotients of multiples. No program here. -/
namespace Go.Pz
theorem mul_zero (f : Nat → Int) (n : Nat) : mul f (fun _ => 0) n = 0 := by rw [mul_comm, zero_mul]
theorem mul_shift : ∀ (n : Nat) (c : Int) (g : Nat → Int) (i : Nat), mul (cf (pshift [c] n)) g i = if i < n then 0 else c * g (i - n)
  | 0, c, g, i => by
    rw [if_neg (by omega)]
    cases i with
    | zero => rfl
    | succ i =>
      show c * g (i + 1) + mul (fun j => cf (pshift [c] 0) (j + 1)) g i = c * g (i + 1)
      rw [show mul (fun j => cf (pshift [c] 0) (j + 1)) g i = 0 from (mul_congr (f' := fun _ => 0) (fun j => rfl) (fun _ => rfl) i).trans (zero_mul g i), Int.add_zero]
  | n + 1, c, g, 0 => by
    rw [if_pos (by omega)]
    show cf (pshift [c] (n + 1)) 0 * g 0 = 0
    rw [cf_shift, if_pos (by omega), Int.zero_mul]
  | n + 1, c, g, i + 1 => by
    show cf (pshift [c] (n + 1)) 0 * g (i + 1) + mul (fun j => cf (pshift [c] (n + 1)) (j + 1)) g i = _
    rw [cf_shift, if_pos (by omega), Int.zero_mul, Int.zero_add, show mul (fun j => cf (pshift [c] (n + 1)) (j + 1)) g i = mul (cf (pshift [c] n)) g i from mul_congr (fun j => rfl) (fun _ => rfl) i, mul_shift n c g i, Nat.succ_sub_succ]
    by_cases h : i < n
    · rw [if_pos h, if_pos (by omega)]
    · rw [if_neg h, if_neg (by omega)]
/-- the rounds that are still to come, the quotient and the rest so far -/
def pseudoGo (lead : Int) (b : List Int) : Nat → List Int → List Int → List Int × List Int
  | 0, q, a => (q, a)
  | n + 1, q, a => pseudoGo lead b n (padd (pscale q lead) (pshift [cf a (n + b.length - 1)] n)) (psub (pscale a lead) (pshift (pscale b (cf a (n + b.length - 1))) n))
theorem pseudoGo_spec {lead : Int} {b : List Int} (hb : 0 < b.length) (hl : lead = cf b (b.length - 1)) (a0 : Nat → Int) : ∀ (n : Nat) (c : Int) (q a : List Int), (∀ i, mul (cf q) (cf b) i + cf a i = c * a0 i) → (∀ i, n + b.length - 1 ≤ i → cf a i = 0) →
    (∀ i, mul (cf (pseudoGo lead b n q a).1) (cf b) i + cf (pseudoGo lead b n q a).2 i = lead ^ n * c * a0 i) ∧ ∀ i, b.length - 1 ≤ i → cf (pseudoGo lead b n q a).2 i = 0
  | 0, c, q, a, h1, h2 => ⟨fun i => by rw [Int.pow_zero, Int.one_mul]; exact h1 i, fun i hi => h2 i (by omega)⟩
  | n + 1, c, q, a, h1, h2 => by
    obtain ⟨t, ht⟩ : ∃ t, t = cf a (n + b.length - 1) := ⟨_, rfl⟩
    have hs : ∀ i, cf (pshift (pscale b t) n) i = if i < n then 0 else t * cf b (i - n) := fun i => by
      rw [cf_shift]; split
      · rfl
      · rw [cf_scale, Int.mul_comm]
    have k := pseudoGo_spec hb hl a0 n (lead * c) (padd (pscale q lead) (pshift [t] n)) (psub (pscale a lead) (pshift (pscale b t) n)) (fun i => by
      rw [cf_sub, cf_scale, hs, mul_congr (f' := fun j => lead * cf q j + cf (pshift [t] n) j) (fun j => by rw [cf_add, cf_scale, Int.mul_comm]) (fun _ => rfl), add_mul, smul_mul, mul_shift]
      have := congrArg (fun z => lead * z) (h1 i)
      simp only [Int.mul_add] at this
      rw [Int.mul_comm (cf a i), Int.mul_assoc, ← this]
      omega) (fun i hi => by
      rw [cf_sub, cf_scale, hs, if_neg (by omega)]
      rcases Nat.lt_or_ge (n + b.length - 1) i with h | h
      · rw [h2 i (by omega), cf_high (l := b) (by omega), Int.zero_mul, Int.mul_zero]; rfl
      · obtain rfl : i = n + b.length - 1 := by omega
        rw [← ht, show n + b.length - 1 - n = b.length - 1 by omega, ← hl, Int.sub_self])
    have e : pseudoGo lead b (n + 1) q a = pseudoGo lead b n (padd (pscale q lead) (pshift [t] n)) (psub (pscale a lead) (pshift (pscale b t) n)) := by rw [ht]; rfl
    rw [e]
    refine ⟨fun i => ?_, k.2⟩
    rw [k.1 i, Int.pow_succ, ← Int.mul_assoc]
/-- quotient and rest, of a multiple by the power of the greatest number -/
def pseudo (a b : List Int) : List Int × List Int := pseudoGo (cf (pnorm b) ((pnorm b).length - 1)) (pnorm b) ((pnorm a).length + 1 - (pnorm b).length) [] (pnorm a)
theorem pseudo_spec {a b : List Int} (hb : pnorm b ≠ []) : (∀ i, mul (cf (pseudo a b).1) (cf b) i + cf (pseudo a b).2 i = cf (pnorm b) ((pnorm b).length - 1) ^ ((pnorm a).length + 1 - (pnorm b).length) * cf a i) ∧
    ∀ i, (pnorm b).length - 1 ≤ i → cf (pseudo a b).2 i = 0 := by
  have hp : 0 < (pnorm b).length := List.length_pos_iff.2 hb
  have h := pseudoGo_spec (lead := cf (pnorm b) ((pnorm b).length - 1)) (b := pnorm b) hp rfl (cf a) ((pnorm a).length + 1 - (pnorm b).length) 1 [] (pnorm a) (fun i => by
    rw [show mul (cf []) (cf (pnorm b)) i = 0 from (mul_congr (f' := fun _ => 0) (fun j => rfl) (fun _ => rfl) i).trans (zero_mul _ i), Int.zero_add, Int.one_mul, cf_norm]) (fun i hi => cf_high (by omega))
  refine ⟨fun i => ?_, h.2⟩
  have := h.1 i
  rw [Int.mul_one, mul_congr (g' := cf b) (fun _ => rfl) (cf_norm b)] at this
  exact this
end Go.Pz
/- Polynomials over the whole numbers: exact quotients. No program here. -/
namespace Go.Pz
/-- places that are still to come, the quotient's numbers so far, what is left -/
def exactGo (lead : Int) (b : List Int) : Nat → List Int → List Int → Option (List Int)
  | 0, q, a => if pnorm a = [] then some (pnorm q) else none
  | n + 1, q, a => if (cf a (n + b.length - 1)).tmod lead = 0 then exactGo lead b n ((cf a (n + b.length - 1)).tdiv lead :: q) (psub a (pshift (pscale b ((cf a (n + b.length - 1)).tdiv lead)) n)) else none
theorem cf_shift_cons (x : Int) (q : List Int) (n i : Nat) : cf (pshift (x :: q) n) i = cf (pshift [x] n) i + cf (pshift q (n + 1)) i := by
  rw [cf_shift, cf_shift, cf_shift]
  by_cases h : i < n
  · rw [if_pos h, if_pos h, if_pos (by omega)]; rfl
  · rw [if_neg h, if_neg h]
    by_cases h2 : i < n + 1
    · rw [if_pos h2, show i - n = 0 by omega, cf_zero, cf_zero, Int.add_zero]
    · rw [if_neg h2, show i - n = (i - (n + 1)) + 1 by omega, cf_succ, cf_succ, cf_nil, Int.zero_add]
theorem cf_part (b : List Int) (t : Int) (n i : Nat) : cf (pshift (pscale b t) n) i = mul (cf (pshift [t] n)) (cf b) i := by
  rw [cf_shift, mul_shift]
  split
  · rfl
  · rw [cf_scale, Int.mul_comm]
/-- what is told is the quotient -/
theorem exactGo_sound {lead : Int} {b : List Int} : ∀ (n : Nat) (q a r : List Int), exactGo lead b n q a = some r → ∀ i, mul (cf r) (cf b) i = cf a i + mul (cf (pshift q n)) (cf b) i
  | 0, q, a, r, h, i => by
    unfold exactGo at h
    split at h
    · rename_i h0
      obtain rfl := Option.some.inj h
      rw [norm_nil.1 h0, Int.zero_add]
      exact mul_congr (fun j => by rw [cf_norm, cf_shift, if_neg (by omega)]; rfl) (fun _ => rfl) i
    · cases h
  | n + 1, q, a, r, h, i => by
    unfold exactGo at h
    split at h
    · have k := exactGo_sound n _ _ r h i
      rw [cf_sub, cf_part, mul_congr (f' := fun j => cf (pshift [(cf a (n + b.length - 1)).tdiv lead] n) j + cf (pshift q (n + 1)) j) (cf_shift_cons _ q n) (fun _ => rfl), add_mul] at k
      omega
    · cases h
/-- what is a product is divided -/
theorem exactGo_complete {lead : Int} {b : List Int} (hb : 0 < b.length) (hl : lead = cf b (b.length - 1)) (h0 : lead ≠ 0) : ∀ (n : Nat) (q a : List Int) (f : Nat → Int), (∀ i, cf a i = mul f (cf b) i) → (∀ i, n ≤ i → f i = 0) →
    ∃ r, exactGo lead b n q a = some (pnorm r) ∧ ∀ i, cf r i = if i < n then f i else cf q (i - n)
  | 0, q, a, f, h1, h2 => by
    refine ⟨q, ?_, fun i => by rw [if_neg (by omega)]; rfl⟩
    unfold exactGo
    rw [if_pos (norm_nil.2 fun i => by rw [h1]; exact (mul_congr (fun j => h2 j (Nat.zero_le _)) (fun _ => rfl) i).trans (zero_mul _ i))]
  | n + 1, q, a, f, h1, h2 => by
    have htop : cf a (n + b.length - 1) = f n * lead := by
      rw [h1, show n + b.length - 1 = n + (b.length - 1) by omega, mul_top (fun i hi => h2 i (by omega)) (fun i hi => cf_high (by omega)), hl]
    have hd : (f n * lead).tdiv lead = f n := Int.mul_tdiv_cancel _ h0
    obtain ⟨r, hr1, hr2⟩ := exactGo_complete hb hl h0 n (f n :: q) (psub a (pshift (pscale b (f n)) n)) (fun i => if i < n then f i else 0) (fun i => by
      rw [cf_sub, cf_part, h1]
      have : mul f (cf b) i = mul (fun j => (if j < n then f j else 0) + cf (pshift [f n] n) j) (cf b) i := mul_congr (fun j => by
        rw [cf_shift]
        by_cases h : j < n
        · rw [if_pos h, if_pos h, Int.add_zero]
        · rw [if_neg h, if_neg h, Int.zero_add]
          rcases Nat.lt_or_ge n j with h3 | h3
          · rw [h2 j (by omega), show j - n = (j - n - 1) + 1 by omega]; rfl
          · obtain rfl : j = n := by omega
            rw [Nat.sub_self]; rfl) (fun _ => rfl) i
      rw [this, add_mul]; omega) (fun i hi => if_neg (by omega))
    refine ⟨r, ?_, fun i => ?_⟩
    · unfold exactGo
      rw [htop, if_pos (Int.mul_tmod_left _ _), hd]
      exact hr1
    · rw [hr2]
      by_cases h : i < n
      · rw [if_pos h, if_pos h, if_pos (by omega)]
      · rw [if_neg h]
        by_cases h3 : i < n + 1
        · rw [if_pos h3, show i - n = 0 by omega, cf_zero]; congr 1; omega
        · rw [if_neg h3, show i - n = (i - (n + 1)) + 1 by omega, cf_succ]
end Go.Pz
/- Polynomials over the whole numbers: how many words their numbers have; values; sameness. No program here. -/
namespace Go.Pz
open Go.Nt Go.En
/-- no number has more words -/
def Bd (l : List Int) (K : Nat) : Prop := ∀ i, (List.length (words (cf l i).natAbs)) ≤ K
theorem Bd.mono {l : List Int} {K L : Nat} (h : Bd l K) (hk : K ≤ L) : Bd l L := fun i => Nat.le_trans (h i) hk
theorem Bd.norm {l : List Int} {K : Nat} (h : Bd l K) : Bd (pnorm l) K := fun i => by rw [cf_norm]; exact h i
theorem Bd.nil (K : Nat) : Bd [] K := fun i => by rw [cf_nil, Int.natAbs_zero, words_zero]; exact Nat.zero_le _
theorem Bd.add {a b : List Int} {K : Nat} (h : Bd a K) (k : Bd b K) : Bd (padd a b) (K + 1) := fun i => by
  rw [cf_add]
  have := nz_add (cf a i) (cf b i)
  have := h i
  have := k i
  omega
theorem Bd.sub {a b : List Int} {K : Nat} (h : Bd a K) (k : Bd b K) : Bd (psub a b) (K + 1) := fun i => by
  rw [cf_sub]
  have := nz_sub (cf a i) (cf b i)
  have := h i
  have := k i
  omega
theorem Bd.scale {a : List Int} {c : Int} {K L : Nat} (h : Bd a K) (k : (List.length (words c.natAbs)) ≤ L) : Bd (pscale a c) (K + L) := fun i => by
  rw [cf_scale]
  have := nz_mul (cf a i) c
  have := h i
  omega
theorem Bd.shift {a : List Int} {K : Nat} (h : Bd a K) (n : Nat) : Bd (pshift a n) K := fun i => by
  rw [cf_shift]
  split
  · rw [Int.natAbs_zero, words_zero]; exact Nat.zero_le _
  · exact h _
theorem rows_nw {a b : List Int} {K L : Nat} (h : Bd a K) (k : Bd b L) : ∀ i n, (List.length (words (rows (cf a) (cf b) i n).natAbs)) ≤ K + L + i
  | 0, n => by
    show (List.length (words (Int.natAbs 0))) ≤ _
    rw [Int.natAbs_zero, words_zero]; exact Nat.zero_le _
  | i + 1, n => by
    show (List.length (words (rows (cf a) (cf b) i n + if i ≤ n then cf a i * cf b (n - i) else 0).natAbs)) ≤ _
    have h1 := rows_nw h k i n
    have h2 : (List.length (words (if i ≤ n then cf a i * cf b (n - i) else 0).natAbs)) ≤ K + L := by
      split
      · have := nz_mul (cf a i) (cf b (n - i))
        have := h i
        have := k (n - i)
        omega
      · rw [Int.natAbs_zero, words_zero]; exact Nat.zero_le _
    have := nz_add (rows (cf a) (cf b) i n) (if i ≤ n then cf a i * cf b (n - i) else 0)
    omega
theorem Bd.mul {a b : List Int} {K L : Nat} (h : Bd a K) (k : Bd b L) : Bd (pmul a b) (K + L + a.length) := fun n => by
  rw [cf_pmul, ← rows_all (A := a.length) (fun i hi => cf_high hi)]
  exact rows_nw h k _ _
theorem rowV_nw {a b : List Int} {K L : Nat} (h : Bd a K) (k : Bd b L) (i j n : Nat) : (List.length (words (rowV (cf a) (cf b) i j n).natAbs)) ≤ K + L + i + 1 := by
  unfold rowV
  have h1 := rows_nw h k i n
  have h2 : (List.length (words (if i ≤ n ∧ n < i + j then cf a i * cf b (n - i) else 0).natAbs)) ≤ K + L := by
    split
    · have := nz_mul (cf a i) (cf b (n - i))
      have := h i
      have := k (n - i)
      omega
    · rw [Int.natAbs_zero, words_zero]; exact Nat.zero_le _
  have := nz_add (rows (cf a) (cf b) i n) (if i ≤ n ∧ n < i + j then cf a i * cf b (n - i) else 0)
  omega
theorem rowL_bd {a b : List Int} {K L : Nat} (h : Bd a K) (k : Bd b L) (N i j : Nat) : Bd (rowL (cf a) (cf b) N i j) (K + L + i + 1) := fun n => by
  unfold rowL
  rw [cf_tab]
  split
  · exact rowV_nw h k i j n
  · rw [Int.natAbs_zero, words_zero]; exact Nat.zero_le _
theorem Bd.raw {xs : List (Bool × List Nat)} {K : Nat} (h : Bd (vals xs) K) (i : Nat) : (List.length (words (val (xs.getD i (false, [])).2))) ≤ K := by
  have := h i
  rwa [cf_vals, zv_nw] at this
/-- the value, from below -/
def esum (l : List Int) (x : Int) : Nat → Int
  | 0 => 0
  | i + 1 => esum l x i + cf l i * x ^ i
theorem esum_cons (a : Int) (l : List Int) (x : Int) : ∀ n, esum (a :: l) x (n + 1) = a + esum l x n * x
  | 0 => by
    show 0 + cf (a :: l) 0 * x ^ 0 = a + 0 * x
    rw [cf_zero, Int.pow_zero, Int.mul_one, Int.zero_mul, Int.zero_add, Int.add_zero]
  | n + 1 => by
    show esum (a :: l) x (n + 1) + cf (a :: l) (n + 1) * x ^ (n + 1) = a + (esum l x n + cf l n * x ^ n) * x
    rw [esum_cons a l x n, cf_succ, Int.pow_succ, Int.add_mul, Int.mul_assoc, Int.add_assoc]
theorem peval_esum : ∀ (l : List Int) (x : Int), peval l x = esum l x l.length
  | [], x => rfl
  | a :: l, x => by
    rw [List.length_cons, esum_cons, ← peval_esum l x]
    show peval l x * x + a = _
    omega
theorem peval_drop (l : List Int) (x : Int) {i : Nat} (h : i < l.length) : peval (l.drop i) x = peval (l.drop (i + 1)) x * x + cf l i := by
  rw [List.drop_eq_getElem_cons h]
  show peval (l.drop (i + 1)) x * x + l[i] = _
  unfold cf
  rw [List.getD, List.getElem?_eq_getElem h]; rfl
theorem peval_nw {l : List Int} {x : Int} {K L : Nat} (h : Bd l K) (hx : (List.length (words x.natAbs)) ≤ L) : (List.length (words (peval l x).natAbs)) ≤ K + (L + 1) * l.length := by
  induction l with
  | nil =>
    show (List.length (words (Int.natAbs 0))) ≤ _
    rw [Int.natAbs_zero, words_zero]; exact Nat.zero_le _
  | cons a l ih =>
    have h1 := ih fun i => h (i + 1)
    have h2 := h 0
    rw [cf_zero] at h2
    show (List.length (words (peval l x * x + a).natAbs)) ≤ _
    have h3 := nz_mul (peval l x) x
    have h4 := nz_add (peval l x * x) a
    rw [List.length_cons, Nat.mul_succ]
    omega
theorem same_iff {a b : List Int} : pnorm (psub a b) = [] ↔ ∀ i, cf a i = cf b i :=
  norm_nil.trans ⟨fun h i => by have := h i; rw [cf_sub] at this; omega, fun h i => by rw [cf_sub]; have := h i; omega⟩
theorem sub_nil {a b : List Int} : psub a b = [] ↔ ∀ i, cf a i = cf b i := by
  rw [← same_iff]
  have : pnorm (psub a b) = psub a b := norm_norm _
  rw [this]
end Go.Pz
namespace Go.En
open Go.Nt Go.Pz
/-- two numbers that are not too long -/
def PR (K : Nat) : Type := { p : (Bool × List Nat) × (Bool × List Nat) // (List.length (words (val p.1.2))) ≤ K ∧ (List.length (words (val p.2.2))) ≤ K }
/-- a function value that makes one number of two -/
abbrev isOp (P : Program) (K : Nat) (op : Int → Int → Int) : VP := isFun (ι := PR K) P (fun p => [Flat (zc p.1.1), Flat (zc p.1.2)]) (fun p => isZ (op (zv p.1.1.1 p.1.1.2) (zv p.1.2.1 p.1.2.2)))
theorem getD_takeZ {β : Type} {l : List β} {d : β} {i n : Nat} (h : i < n) : (l.take n).getD i d = l.getD i d := by
  rw [List.getD, List.getD, List.getElem?_take_of_lt h]
theorem memF_eq {b : Option Nat} {l : List (Bool × List Nat)} {i : Nat} {z x : Bool × List Nat} {r : Mem} (h : l[i]? = some x) : ((b, cellM (((fill l i z).set i x).flatMap zc)) :: r : Mem) = (b, cellM ((fill l (i + 1) z).flatMap zc)) :: r := by rw [fill_set _ _ _ _ h]
theorem memZ_eq {b : Option Nat} {l l' : List (Bool × List Nat)} {r : Mem} (h : l = l') : ((b, cellM (l.flatMap zc)) :: r : Mem) = (b, cellM (l'.flatMap zc)) :: r := h ▸ rfl
theorem getElem_cf {l : List Int} {i : Nat} (h : i < l.length) : l[i]? = some (cf l i) := by
  unfold cf; rw [List.getD, List.getElem?_eq_getElem h]; rfl
theorem getD_nz (l : List Int) (i : Nat) : (l.map nz).getD i (false, []) = nz (cf l i) := by
  unfold cf
  rw [List.getD, List.getD, List.getElem?_map]
  cases l[i]? with
  | none => exact nz_zero.symm
  | some z => rfl
theorem rowL_setz (f g : Nat → Int) {N i k : Nat} (h : i + k < N) : ((rowL f g N i k).map nz).set (i + k) (nz (rowV f g i k (i + k) + f i * g k)) = (rowL f g N i (k + 1)).map nz := by
  rw [← rowL_set f g h, List.map_set]
theorem rowL_getz (f g : Nat → Int) {N n : Nat} (i k : Nat) (h : n < N) : ((rowL f g N i k).map nz)[n]? = some (nz (rowV f g i k n)) := by
  rw [List.getElem?_map, rowL_get f g i k h]; rfl
theorem fill_done {β : Type} {l : List β} {i n : Nat} {z : β} (h : i = l.length) (hn : n = l.length) : (fill l i z).take n = l := by
  subst h; subst hn; rw [fill_all, List.take_length]
theorem take_map_succ (l : List Int) (i : Nat) (h : i < l.length) : (l.take i).map nz ++ [nz (cf l i)] = (l.take (i + 1)).map nz := by
  rw [List.take_succ_eq_append_getElem h, List.map_append]
  unfold cf
  rw [List.getD, List.getElem?_eq_getElem h]; rfl
end Go.En
/- Contracts: polynomials over the whole numbers: their lists. -/
namespace Go.Proofs.Ytfoclelageohiaa
open Go.En Go.RowKit
set_option linter.unusedVariables false
set_option maxRecDepth 10000
open Go.Nt
open Go.Pz
end Go.Proofs.Ytfoclelageohiaa
/- Contracts: sums, differences, multiples of polynomials. -/
namespace Go.Proofs.Ytfoclelageohiaa
open Go.En Go.RowKit
set_option linter.unusedVariables false
set_option maxRecDepth 10000
open Go.Nt
open Go.Pz
end Go.Proofs.Ytfoclelageohiaa
/- Plain numbers: binomials, Fermat's little theorem, primes by trial division; the fields' functions. No program here. -/
namespace Go.Gf
/-- binomials -/
def ch : Nat → Nat → Nat
  | _, 0 => 1
  | 0, _ + 1 => 0
  | n + 1, k + 1 => ch n k + ch n (k + 1)
theorem ch_zero (n : Nat) : ch n 0 = 1 := by cases n <;> rfl
theorem ch_over (n : Nat) : ∀ k, n < k → ch n k = 0 := by
  induction n with
  | zero => intro k h; cases k with | zero => omega | succ k => rfl
  | succ n ih =>
    intro k h
    cases k with
    | zero => omega
    | succ k => simp only [ch]; rw [ih k (by omega), ih (k+1) (by omega)]
theorem ch_mul (n : Nat) : ∀ k, (k + 1) * ch (n + 1) (k + 1) = (n + 1) * ch n k := by
  induction n with
  | zero =>
    intro k
    cases k with
    | zero => rfl
    | succ k => simp [ch]
  | succ n ih =>
    intro k
    cases k with
    | zero =>
      have := ih 0
      simp only [ch_zero] at this ⊢
      rw [ch, ch_zero]
      grind
    | succ k =>
      have h1 := ih k
      have h2 := ih (k + 1)
      have e1 : ch (n + 1 + 1) (k + 1 + 1) = ch (n + 1) (k + 1) + ch (n + 1) (k + 1 + 1) := rfl
      have e2 : ch (n + 1) (k + 1) = ch n k + ch n (k + 1) := rfl
      rw [e1]
      grind
/-- the first m terms of (a+1)^n -/
def S (a n : Nat) : Nat → Nat
  | 0 => 0
  | m + 1 => S a n m + ch n m * a ^ m
theorem S_succ (a n : Nat) : ∀ m, S a (n + 1) (m + 1) = S a n (m + 1) + a * S a n m := by
  intro m
  induction m with
  | zero => simp [S, ch_zero]
  | succ m ih =>
    rw [S, ih, S, S]
    have : ch (n + 1) (m + 1) = ch n m + ch n (m + 1) := rfl
    rw [this]
    have e2 : S a n (m + 1) = S a n m + ch n m * a ^ m := rfl
    rw [e2]
    rw [Nat.pow_succ]
    grind
theorem S_all (a n : Nat) : S a n (n + 1) = (a + 1) ^ n := by
  induction n with
  | zero => simp [S, ch_zero]
  | succ n ih =>
    rw [S_succ, ih]
    have : S a n (n + 1 + 1) = S a n (n + 1) := by rw [S, ch_over n (n+1) (by omega)]; simp
    rw [this, ih, Nat.pow_succ]
    grind
def Prime (p : Nat) : Prop := 2 ≤ p ∧ ∀ d, d ∣ p → d = 1 ∨ d = p
theorem Prime.coprime {p k : Nat} (hp : Prime p) (h : ¬ p ∣ k) : Nat.Coprime p k := by
  rcases hp.2 (Nat.gcd p k) (Nat.gcd_dvd_left p k) with e | e
  · exact e
  · exact absurd (e ▸ Nat.gcd_dvd_right p k) h
theorem Prime.dvd_mul {p a b : Nat} (hp : Prime p) (h : p ∣ a * b) : p ∣ a ∨ p ∣ b := by
  by_cases ha : p ∣ a
  · exact .inl ha
  · exact .inr ((hp.coprime ha).dvd_of_dvd_mul_left h)
theorem Prime.dvd_ch {p : Nat} (hp : Prime p) (k : Nat) (h1 : k + 1 < p) : p ∣ ch p (k + 1) := by
  obtain ⟨n, rfl⟩ : ∃ n, p = n + 1 := ⟨p - 1, by omega⟩
  have h := ch_mul n k
  have hd : n + 1 ∣ (k + 1) * ch (n + 1) (k + 1) := ⟨_, h⟩
  rcases hp.dvd_mul hd with e | e
  · have := Nat.le_of_dvd (by omega) e; omega
  · exact e
theorem S_mod {p : Nat} (hp : Prime p) (a : Nat) : ∀ m, 1 ≤ m → m ≤ p → S a p m % p = 1 % p := by
  intro m h1 h2
  induction m with
  | zero => omega
  | succ m ih =>
    rw [S]
    cases m with
    | zero => simp [S, ch_zero]
    | succ m =>
      obtain ⟨c, hc⟩ := hp.dvd_ch m (by omega)
      rw [hc, Nat.add_mod, ih (by omega) (by omega)]
      rw [Nat.mul_assoc]
      simp
theorem fermat {p : Nat} (hp : Prime p) (a : Nat) : a ^ p % p = a % p := by
  induction a with
  | zero => rw [Nat.zero_pow (by have := hp.1; omega)]
  | succ a ih =>
    rw [← S_all, S, Nat.add_mod, S_mod hp a p (by have := hp.1; omega) (by omega)]
    have : ch p p = 1 := by
      clear ih hp
      induction p with
      | zero => rfl
      | succ p ih => rw [ch, ih, ch_over p (p+1) (by omega)]
    rw [this, Nat.one_mul, ih, ← Nat.add_mod, Nat.add_comm]
theorem fermat_inv {p : Nat} (hp : Prime p) (a : Nat) (h : a % p ≠ 0) : a ^ (p - 1) % p = 1 % p := by
  have hf := fermat hp a
  have hc : Nat.Coprime p a := hp.coprime (fun ⟨c, hc⟩ => h (by rw [hc]; simp))
  have e : p - 1 + 1 = p := by have := hp.1; omega
  have h1 : 1 ≤ a ^ (p - 1) := Nat.one_le_iff_ne_zero.2 (fun h0 => by
    have h2 : a = 0 := by
      rcases Nat.eq_zero_or_pos a with h | h
      · exact h
      · have := Nat.pow_pos (n := p - 1) h; omega
    simp [h2] at h)
  have e3 : a * a ^ (p - 1) = a ^ p := by
    rw [← Nat.pow_succ']; exact congrArg (a ^ ·) e
  have hd : p ∣ a * (a ^ (p - 1) - 1) := by
    rw [Nat.mul_sub, Nat.mul_one, e3]
    exact Nat.dvd_of_mod_eq_zero (Nat.sub_mod_eq_zero_of_mod_eq hf)
  obtain ⟨c, hcc⟩ := hc.dvd_of_dvd_mul_left hd
  have : a ^ (p - 1) = 1 + p * c := by omega
  rw [this]; simp
/-- the prime of a field's number -/
def fp (q : Nat) : Nat := if q = 0 then 2 else q
theorem fp_pos (q : Nat) : 0 < fp q := by unfold fp; split <;> omega
theorem fp_lt {q : Nat} (h : q < 4294967296) : fp q < 4294967296 := by unfold fp; split <;> omega
theorem fp_of {q : Nat} (h : 0 < q) : fp q = q := by unfold fp; rw [if_neg (by omega)]
def inv (p a : Nat) : Nat := if a % p = 0 then 0 else a ^ (p - 2) % p
theorem raise_start (q a n : Nat) (hp : 0 < q) (hn : n < 18446744073709551616) : 1 % q * a ^ n % q = a ^ n % q ∧ 1 % q < q ∧ n < 18446744073709551616 :=
  ⟨by rw [Nat.mod_mul_mod, Nat.one_mul], Nat.mod_lt _ hp, hn⟩
theorem pow_half (x k : Nat) : (x * x) ^ (k / 2) * x ^ (k % 2) = x ^ k := by
  have e : k / 2 + k / 2 + k % 2 = k := by omega
  rw [Nat.mul_pow, ← Nat.pow_add, ← Nat.pow_add, e]
theorem raise_odd {p o x k r : Nat} (hp : 0 < p) (h : o * x ^ k % p = r) (hk : k < 18446744073709551616) (h2 : k % 2 = 1) :
    o * x % p * (x * x % p) ^ (k / 2) % p = r ∧ o * x % p < p ∧ k / 2 < 18446744073709551616 := by
  refine ⟨?_, Nat.mod_lt _ hp, by omega⟩
  rw [Nat.mod_mul_mod, Nat.mul_mod, ← Nat.pow_mod, ← Nat.mul_mod, ← h]
  have := pow_half x k
  rw [h2, Nat.pow_one] at this
  rw [← this]; congr 1; grind
theorem raise_even {p o x k r : Nat} (h : o * x ^ k % p = r) (ho : o < p) (hk : k < 18446744073709551616) (h2 : k % 2 ≠ 1) :
    o * (x * x % p) ^ (k / 2) % p = r ∧ o < p ∧ k / 2 < 18446744073709551616 := by
  refine ⟨?_, ho, by omega⟩
  rw [Nat.mul_mod, ← Nat.pow_mod, ← Nat.mul_mod, ← h]
  have := pow_half x k
  rw [show k % 2 = 0 by omega, Nat.pow_zero, Nat.mul_one] at this
  rw [this]
theorem raise_end {p o x k r : Nat} (h : o * x ^ k % p = r) (ho : o < p) (hk : k = 0) : o = r := by
  subst hk; simp at h; rw [Nat.mod_eq_of_lt ho] at h; exact h
/-- no divisor below d but 1 -/
def NoDiv (p d : Nat) : Prop := ∀ e, 2 ≤ e → e < d → ¬ e ∣ p
theorem prime_of_noDiv {p d : Nat} (hp : 2 ≤ p) (h : NoDiv p d) (hd : p < d * d) : Prime p := by
  refine ⟨hp, fun e ⟨f, hf⟩ => ?_⟩
  rcases Nat.lt_or_ge 1 e with h1 | h1
  · rcases Nat.lt_or_ge 1 f with h2 | h2
    · exfalso
      rcases Nat.lt_or_ge e d with h3 | h3
      · exact h e h1 h3 ⟨f, hf⟩
      · rcases Nat.lt_or_ge f d with h4 | h4
        · exact h f h2 h4 ⟨e, by rw [hf, Nat.mul_comm]⟩
        · have := Nat.mul_le_mul h3 h4; omega
    · right
      have : f = 1 := by rcases Nat.lt_or_ge f 1 with h5 | h5
                         · have : f = 0 := by omega
                           subst this; omega
                         · omega
      subst this; omega
  · left
    rcases Nat.lt_or_ge e 1 with h5 | h5
    · have : e = 0 := by omega
      subst this; omega
    · omega
theorem noDiv_step {p d : Nat} (hodd : p % 2 = 1) (hd : d % 2 = 1) (h : NoDiv p d) (h1 : p % d ≠ 0) : NoDiv p (d + 2) := by
  intro e he hlt hdv
  rcases Nat.lt_or_ge e d with h2 | h2
  · exact h e he h2 hdv
  · rcases Nat.lt_or_ge d e with h3 | h3
    · have : e = d + 1 := by omega
      subst this
      have h4 : 2 ∣ p := Nat.dvd_trans ⟨(d + 1) / 2, by omega⟩ hdv
      omega
    · have : e = d := by omega
      subst this
      exact h1 (Nat.mod_eq_zero_of_dvd hdv)
theorem prime_two : Prime 2 := ⟨by omega, fun d hd => by have := Nat.le_of_dvd (by omega) hd; rcases Nat.eq_zero_or_pos d with h | h; subst h; simp at hd; omega⟩
theorem prime_odd {p : Nat} (hp : Prime p) (h : p ≠ 2) : p % 2 = 1 := by
  rcases Nat.mod_two_eq_zero_or_one p with h1 | h1
  · rcases hp.2 2 (Nat.dvd_of_mod_eq_zero h1) with h2 | h2 <;> omega
  · exact h1
theorem not_prime_of_div {p d : Nat} (hd : 2 ≤ d) (h : d * d ≤ p) (h0 : p % d = 0) : ¬ Prime p := by
  intro hp
  have h3 : d < p := Nat.lt_of_lt_of_le (by have := Nat.mul_le_mul_left d hd; omega) h
  rcases hp.2 d (Nat.dvd_of_mod_eq_zero h0) with e | e <;> omega
end Go.Gf
namespace Go.Gf
def pr (p : Nat) : Bool := decide (2 ≤ p ∧ p < 2147483648 ∧ ∀ e, e < p → 2 ≤ e → ¬ e ∣ p)
theorem pr_iff {p : Nat} : pr p = true ↔ Prime p ∧ p < 2147483648 := by
  unfold pr
  rw [decide_eq_true_eq]
  constructor
  · rintro ⟨h1, h2, h3⟩
    refine ⟨⟨h1, fun d hd => ?_⟩, h2⟩
    rcases Nat.lt_or_ge d p with h | h
    · rcases Nat.lt_or_ge d 2 with h4 | h4
      · rcases Nat.eq_zero_or_pos d with h5 | h5
        · subst h5; simp at hd; omega
        · left; omega
      · exact absurd hd (h3 d h h4)
    · right; have := Nat.le_of_dvd (by omega) hd; omega
  · rintro ⟨hp, h2⟩
    refine ⟨hp.1, h2, fun e h3 h4 hd => ?_⟩
    rcases hp.2 e hd with h | h <;> omega
theorem pr_false {p : Nat} (h : ¬ Prime p ∨ 2147483648 ≤ p) : pr p = false := by
  cases hb : pr p with
  | false => rfl
  | true => have := pr_iff.1 hb; rcases h with h | h; exact absurd this.1 h; omega
theorem pr_small {p : Nat} (h : (p < 2 ∨ 2147483648 ≤ p) ∨ p % 2 = 0) : decide (p = 2) = pr p := by
  by_cases e : p = 2
  · subst e; rw [pr_iff.2 ⟨prime_two, by omega⟩]; rfl
  · rw [pr_false]
    · simp [e]
    · rcases h with (h | h) | h
      · exact .inl (fun hp => by have := hp.1; omega)
      · exact .inr h
      · exact .inl (fun hp => by have := prime_odd hp e; omega)
theorem sq_lt {d p : Nat} (h : d * d ≤ p) (hp : p < 2147483648) : d < 46342 := by
  apply Classical.byContradiction; intro h1
  have := Nat.mul_le_mul (Nat.le_of_not_lt h1) (Nat.le_of_not_lt h1); omega
theorem noDiv_three {p : Nat} (h : p % 2 ≠ 0) : NoDiv p 3 := fun e h1 h2 hd => by
  have : e = 2 := by omega
  subst this; have := Nat.mod_eq_zero_of_dvd hd; omega
theorem noDiv_two (p : Nat) : NoDiv p 2 := fun e h1 h2 => by omega
theorem noDiv_succ {p d : Nat} (h : NoDiv p d) (h1 : p % d ≠ 0) : NoDiv p (d + 1) := by
  intro e he hlt hdv
  rcases Nat.lt_or_ge e d with h2 | h2
  · exact h e he h2 hdv
  · have : e = d := by omega
    subst this; exact h1 (Nat.mod_eq_zero_of_dvd hdv)
/-- no divisor from lo on, 2^k numbers -/
def chk (p : Nat) : Nat → Nat → Bool
  | lo, 0 => !Nat.beq (p % lo) 0
  | lo, k + 1 => chk p lo k && chk p (lo + 2 ^ k) k
theorem chk_spec {p : Nat} : ∀ (k lo : Nat), chk p lo k = true → ∀ e, lo ≤ e → e < lo + 2 ^ k → ¬ e ∣ p
  | 0, lo, h, e, h1, h2 => fun hd => by
    have : e = lo := by simp at h2; omega
    subst this
    have := Nat.mod_eq_zero_of_dvd hd
    simp [chk, this] at h
  | k + 1, lo, h, e, h1, h2 => by
    simp only [chk, Bool.and_eq_true] at h
    rcases Nat.lt_or_ge e (lo + 2 ^ k) with h3 | h3
    · exact chk_spec k lo h.1 e h1 h3
    · exact chk_spec k _ h.2 e h3 (by rw [Nat.pow_succ] at h2; omega)
theorem prime_chk {p k : Nat} (hp : 2 ≤ p) (h : chk p 2 k = true) (hk : p < (2 + 2 ^ k) * (2 + 2 ^ k)) : Prime p :=
  prime_of_noDiv hp (fun e h1 h2 => chk_spec k 2 h e h1 h2) hk
def ptab (k : Nat) : Nat := [2, 3, 5, 7, 11, 13, 101, 65537, 1000003, 1073741827, 2147483629, 2147483647].getD k 2
theorem ptab_le {k : Nat} : ptab k < 2147483648 := by
  unfold ptab
  match k with
  | 0 | 1 | 2 | 3 | 4 | 5 | 6 | 7 | 8 | 9 | 10 | 11 => decide
  | k + 12 => simp
theorem ptab_prime {k : Nat} : Prime (ptab k) := by
  unfold ptab
  match k with
  | 0 => exact prime_two
  | 1 => exact prime_chk (p := 3) (k := 0) (by omega) (by decide) (by decide)
  | 2 => exact prime_chk (p := 5) (k := 0) (by omega) (by decide) (by decide)
  | 3 => exact prime_chk (p := 7) (k := 0) (by omega) (by decide) (by decide)
  | 4 => exact prime_chk (p := 11) (k := 1) (by omega) (by decide) (by decide)
  | 5 => exact prime_chk (p := 13) (k := 1) (by omega) (by decide) (by decide)
  | 6 => exact prime_chk (p := 101) (k := 4) (by omega) (by decide) (by decide)
  | 7 => exact prime_chk (p := 65537) (k := 9) (by omega) (by decide +kernel) (by decide)
  | 8 => exact prime_chk (p := 1000003) (k := 10) (by omega) (by decide +kernel) (by decide)
  | 9 => exact prime_chk (p := 1073741827) (k := 15) (by omega) (by decide +kernel) (by decide)
  | 10 => exact prime_chk (p := 2147483629) (k := 16) (by omega) (by decide +kernel) (by decide)
  | 11 => exact prime_chk (p := 2147483647) (k := 16) (by omega) (by decide +kernel) (by decide)
  | k + 12 => exact prime_two
theorem ptab_pr (k : Nat) : pr (ptab k) = true := pr_iff.2 ⟨ptab_prime, ptab_le⟩
theorem ptab_two (k : Nat) : 2 ≤ ptab k := ptab_prime.1
theorem ptab_fp (k : Nat) : fp (ptab k) = ptab k := fp_of (by have := ptab_two k; omega)
theorem inv_lt {p a : Nat} (hp : 0 < p) : inv p a < p := by unfold inv; split; exact hp; exact Nat.mod_lt _ hp
theorem inv_mul {p a : Nat} (hp : Prime p) (h : a % p ≠ 0) : a * inv p a % p = 1 % p := by
  unfold inv; rw [if_neg h, Nat.mul_mod, Nat.mod_mod, ← Nat.mul_mod, ← Nat.pow_succ', ← fermat_inv hp a h]
  have := hp.1
  congr 2; omega
/-- a power, below 0 of the inverse -/
def powZ (p a : Nat) (z : Int) : Nat := (if z < 0 then inv p a else a) ^ z.natAbs % p
end Go.Gf
namespace Go.Gf
theorem div_lt_of {p d : Nat} (h : 2 ≤ d) (h2 : d ≤ p / d) : d + 1 ≤ p := by
  have := Nat.mul_le_of_le_div d d p h2
  have := Nat.mul_le_mul_left d h; omega
theorem mul_le_of {p d : Nat} (h2 : d ≤ p / d) : d * d ≤ p := Nat.mul_le_of_le_div d d p h2
theorem lt_mul_of {p d : Nat} (h : 0 < d) (h2 : p / d < d) : p < d * d := (Nat.div_lt_iff_lt_mul h).1 h2
theorem ptab_get (n : Nat) {β : Type} (f : Nat → β) : ([f 2, f 3, f 5, f 7, f 11, f 13, f 101, f 65537, f 1000003, f 1073741827, f 2147483629, f 2147483647])[(((n : Int) % 12)).toNat]? = some (f (ptab (n % 12))) := by
  have e : ((n : Int) % 12).toNat = n % 12 := by omega
  rw [e]
  have h : n % 12 < 12 := Nat.mod_lt _ (by omega)
  generalize n % 12 = k at *
  match k, h with
  | 0, _ | 1, _ | 2, _ | 3, _ | 4, _ | 5, _ | 6, _ | 7, _ | 8, _ | 9, _ | 10, _ | 11, _ => rfl
theorem mul_start {a b p : Nat} (hp : 0 < p) (h : p < 4294967296) : 0 = a % p * (b % p / 2 ^ 32) % p := by
  have : b % p / 2 ^ 32 = 0 := Nat.div_eq_of_lt (Nat.lt_trans (Nat.mod_lt _ hp) h)
  rw [this]; simp
theorem half (y : Nat) {k : Nat} (hk : 0 < k) : y / 2 ^ (k - 1) = 2 * (y / 2 ^ k) + y / 2 ^ (k - 1) % 2 := by
  have : y / 2 ^ k = y / 2 ^ (k - 1) / 2 := by
    rw [Nat.div_div_eq_div_mul, ← Nat.pow_succ]; congr 2; omega
  omega
theorem mul_step0 {x y p k o : Nat} (hk : 0 < k) (h : o = x * (y / 2 ^ k) % p) (hb : ¬ y / 2 ^ (k - 1) % 2 = 1) : 2 * o % p = x * (y / 2 ^ (k - 1)) % p := by
  have e := half y hk
  rw [h, Nat.mul_mod_mod]
  congr 1
  rw [e, show y / 2 ^ (k - 1) % 2 = 0 by omega]; grind
theorem mul_step1 {x y p k o : Nat} (hk : 0 < k) (h : o = x * (y / 2 ^ k) % p) (hb : y / 2 ^ (k - 1) % 2 = 1) : (2 * o % p + x) % p = x * (y / 2 ^ (k - 1)) % p := by
  have e := half y hk
  rw [h, Nat.mul_mod_mod, Nat.mod_add_mod]
  congr 1
  rw [e, hb]; grind
theorem mul_end {a b p k o : Nat} (h : o = a % p * (b % p / 2 ^ k) % p) (hk : k = 0) : o = a * b % p := by
  subst hk; simp at h; rw [h]
theorem law_inverse {p q : Nat} (a : Nat) (hp : Prime p) (hq : fp q = p) :
    (decide (a % p = 0) && decide (inv (fp q) a = 0) || !decide (a % p = 0) && decide (a * inv (fp q) a % fp q = 1 % p)) = true := by
  rw [hq]
  by_cases h : a % p = 0
  · simp [h, inv]
  · simp [h, inv_mul hp h]
end Go.Gf
namespace Go.Gf
theorem law_field {p q : Nat} (a b c : Nat) (hq : fp q = p) (hp : 0 < p) :
    (true && true && decide (a * ((b % fp q + c % fp q) % fp q) % fp q = (a * b % fp q % fp q + a * c % fp q % fp q) % fp q) && decide (a * (b * c % fp q) % fp q = a * b % fp q * c % fp q) &&
      decide (((a % fp q + fp q - b % fp q) % fp q % fp q + b % fp q) % fp q = a % fp q)) = true := by
  rw [hq]
  have h1 : a * ((b % p + c % p) % p) % p = (a * b % p % p + a * c % p % p) % p := by
    rw [← Nat.add_mod, Nat.mul_mod_mod, Nat.mul_add, Nat.mod_mod, Nat.mod_mod, ← Nat.add_mod]
  have h2 : a * (b * c % p) % p = a * b % p * c % p := by rw [Nat.mul_mod_mod, Nat.mod_mul_mod, Nat.mul_assoc]
  have h3 : ((a % p + p - b % p) % p % p + b % p) % p = a % p := by
    have hb := Nat.mod_lt b hp
    rw [Nat.mod_mod, Nat.mod_add_mod, show a % p + p - b % p + b % p = a % p + p by omega, Nat.add_mod_right, Nat.mod_mod]
  simp only [h1, h2, h3, decide_true, Bool.and_self]
theorem new_le {p : Nat} : (if pr p = true then p else 0) ≤ p := by split <;> omega
theorem law_new {n : Nat} : (pr n && decide (fp (if pr n = true then n else 0) = n) || !pr n && decide (fp (if pr n = true then n else 0) = 2)) = true := by
  cases h : pr n with
  | true => have := (pr_iff.1 h).1.1; simp [fp_of (q := n) (by omega)]
  | false => simp [fp]
theorem tmod41 (e : Int) : -41 < e.tmod 41 ∧ e.tmod 41 < 41 := by
  have h1 := Int.tmod_lt_of_pos e (b := 41) (by omega)
  have h2 := Int.tmod_lt_of_pos (-e) (b := 41) (by omega)
  rw [Int.neg_tmod] at h2
  omega
end Go.Gf
namespace Go.Gf
theorem law_powers {p q a b i : Nat} {k : Int} (hp : Prime p) (hq : fp q = p) (hb : b = if k < 0 then inv (fp q) a else a) (hi : i = k.natAbs) :
    (true && true && decide (powZ (fp q) a k = b ^ i % fp q) && decide (powZ (fp q) a (p : Int) = a % p) && decide (powZ (fp q) a 0 = 1 % p)) = true := by
  rw [hq] at *
  subst hb hi
  have h2 : powZ p a (p : Int) = a % p := by unfold powZ; rw [if_neg (by omega), Int.natAbs_natCast]; exact fermat hp a
  have h1 : powZ p a k = (if k < 0 then inv p a else a) ^ k.natAbs % p := rfl
  have h3 : powZ p a 0 = 1 % p := by simp [powZ]
  rw [h1, h2, h3]
  simp only [decide_true, Bool.and_self]
end Go.Gf
/- Polynomials over the whole numbers: contents; the content of a product. No program here. -/
namespace Go.Pz
open Go.Gf
def cont (l : List Int) : Nat := l.foldl (fun g x => Nat.gcd g x.natAbs) 0
theorem dvd_fold (d : Nat) : ∀ (l : List Int) (g : Nat), d ∣ l.foldl (fun g x => Nat.gcd g x.natAbs) g ↔ d ∣ g ∧ ∀ x ∈ l, d ∣ x.natAbs
  | [], g => by simp
  | a :: l, g => by
    rw [List.foldl_cons, dvd_fold d l, Nat.dvd_gcd_iff]
    simp only [List.mem_cons, forall_eq_or_imp]
    exact ⟨fun h => ⟨h.1.1, h.1.2, h.2⟩, fun h => ⟨⟨h.1, h.2.1⟩, h.2.2⟩⟩
theorem dvd_cont {d : Nat} {l : List Int} : d ∣ cont l ↔ ∀ i, d ∣ (cf l i).natAbs := by
  unfold cont
  rw [dvd_fold]
  constructor
  · rintro ⟨_, h⟩ i
    unfold cf
    rw [List.getD]
    cases e : l[i]? with
    | none => exact Nat.dvd_zero d
    | some x => exact h x (List.mem_of_getElem? e)
  · intro h
    refine ⟨Nat.dvd_zero d, fun x hx => ?_⟩
    obtain ⟨i, hi, rfl⟩ := List.mem_iff_getElem.1 hx
    have := h i
    unfold cf at this
    rwa [List.getD, List.getElem?_eq_getElem hi] at this
theorem cont_dvd (l : List Int) (i : Nat) : (cont l : Int) ∣ cf l i := by
  have := dvd_cont.1 (Nat.dvd_refl (cont l)) i
  exact Int.ofNat_dvd_left.2 this
theorem cont_eq {l l' : List Int} (h : ∀ i, (cf l i).natAbs = (cf l' i).natAbs) : cont l = cont l' :=
  Nat.dvd_antisymm (dvd_cont.2 fun i => by rw [← h]; exact dvd_cont.1 (Nat.dvd_refl _) i) (dvd_cont.2 fun i => by rw [h]; exact dvd_cont.1 (Nat.dvd_refl _) i)
theorem cont_zero {l : List Int} : cont l = 0 ↔ ∀ i, cf l i = 0 := by
  constructor
  · intro h i
    have := dvd_cont.1 (Nat.dvd_refl (cont l)) i
    rw [h] at this
    have := Nat.zero_dvd.1 this
    omega
  · intro h
    exact Nat.zero_dvd.1 (dvd_cont.2 fun i => by rw [h i]; exact Nat.dvd_zero 0)
theorem prime_dvd : ∀ n, 2 ≤ n → ∃ p, Prime p ∧ p ∣ n := by
  intro n
  induction n using Nat.strongRecOn with
  | ind n ih =>
    intro h
    by_cases hp : Prime n
    · exact ⟨n, hp, Nat.dvd_refl n⟩
    · have : ∃ d, d ∣ n ∧ d ≠ 1 ∧ d ≠ n := Classical.byContradiction fun hn => hp ⟨h, fun d hd => Classical.byContradiction fun hk => hn ⟨d, hd, fun e => hk (.inl e), fun e => hk (.inr e)⟩⟩
      obtain ⟨d, h1, h2, h3⟩ := this
      have hle := Nat.le_of_dvd (by omega) h1
      have h0 : d ≠ 0 := fun e => by rw [e] at h1; have := Nat.zero_dvd.1 h1; omega
      obtain ⟨p, h4, h5⟩ := ih d (by omega) (by omega)
      exact ⟨p, h4, Nat.dvd_trans h5 h1⟩
/-- the first numbers that a prime does not divide make one of the product's -/
theorem mul_first (p : Int) : ∀ (j i : Nat) (f g : Nat → Int), (∀ k, k < i → p ∣ f k) → (∀ k, k < j → p ∣ g k) → p ∣ mul f g (i + j) - f i * g j
  | 0, 0, f, g, _, _ => by show p ∣ f 0 * g 0 - f 0 * g 0; rw [Int.sub_self]; exact Int.dvd_zero p
  | 0, i + 1, f, g, hf, _ => by
    have h := mul_first p 0 i (fun k => f (k + 1)) g (fun k hk => hf (k + 1) (by omega)) (fun k hk => by omega)
    show p ∣ f 0 * g (i + 1) + mul (fun k => f (k + 1)) g i - f (i + 1) * g 0
    have h0 : p ∣ f 0 * g (i + 1) := Int.dvd_trans (hf 0 (by omega)) (Int.dvd_mul_right _ _)
    have := Int.dvd_add h0 h
    rwa [← Int.add_sub_assoc] at this
  | j + 1, i, f, g, hf, hg => by
    have h := mul_first p j i f (fun k => g (k + 1)) hf (fun k hk => hg (k + 1) (by omega))
    rw [show i + (j + 1) = (i + j) + 1 by omega, mul_back]
    have h0 : p ∣ f (i + j + 1) * g 0 := Int.dvd_trans (hg 0 (by omega)) (Int.dvd_mul_left _ _)
    have := Int.dvd_add h h0
    rwa [show mul f (fun k => g (k + 1)) (i + j) - f i * g (j + 1) + f (i + j + 1) * g 0 = mul f (fun k => g (k + 1)) (i + j) + f (i + j + 1) * g 0 - f i * g (j + 1) by omega] at this
theorem first_of {P : Nat → Prop} (h : ¬ ∀ i, P i) : ∃ i, ¬ P i ∧ ∀ k, k < i → P k := by
  obtain ⟨n, hn⟩ : ∃ n, ¬ P n := Classical.byContradiction fun hk => h fun i => Classical.byContradiction fun hi => hk ⟨i, hi⟩
  induction n using Nat.strongRecOn with
  | ind n ih =>
    by_cases hc : ∀ k, k < n → P k
    · exact ⟨n, hn, hc⟩
    · obtain ⟨k, hk⟩ : ∃ k, ¬ (k < n → P k) := Classical.byContradiction fun hk => hc fun i => Classical.byContradiction fun hi => hk ⟨i, hi⟩
      exact ih k (Nat.lt_of_not_le fun hle => hk fun hlt => absurd hlt (by omega)) fun hp => hk fun _ => hp
theorem prime_mul {p : Nat} (hp : Prime p) {f g : Nat → Int} (h : ∀ n, (p : Int) ∣ mul f g n) : (∀ i, (p : Int) ∣ f i) ∨ (∀ i, (p : Int) ∣ g i) := by
  refine Classical.byContradiction fun hc => ?_
  obtain ⟨i, hi, hi'⟩ := first_of fun e => hc (.inl e)
  obtain ⟨j, hj, hj'⟩ := first_of fun e => hc (.inr e)
  have h1 := mul_first (p : Int) j i f g hi' hj'
  have h2 : (p : Int) ∣ f i * g j := by
    have := Int.dvd_sub (h (i + j)) h1
    rwa [show mul f g (i + j) - (mul f g (i + j) - f i * g j) = f i * g j by omega] at this
  have h3 : p ∣ (f i).natAbs * (g j).natAbs := by rw [← Int.natAbs_mul]; exact Int.ofNat_dvd_left.1 h2
  rcases hp.dvd_mul h3 with e | e
  · exact hi (Int.ofNat_dvd_left.2 e)
  · exact hj (Int.ofNat_dvd_left.2 e)
/-- the content of a product -/
theorem cont_mul {a b c : List Int} (h : ∀ n, cf c n = mul (cf a) (cf b) n) : cont c = cont a * cont b := by
  by_cases ha : cont a = 0
  · rw [ha, Nat.zero_mul]
    exact cont_zero.2 fun n => by rw [h]; exact (mul_congr (cont_zero.1 ha) (fun _ => rfl) n).trans (zero_mul _ n)
  by_cases hb : cont b = 0
  · rw [hb, Nat.mul_zero]
    exact cont_zero.2 fun n => by rw [h, mul_comm]; exact (mul_congr (cont_zero.1 hb) (fun _ => rfl) n).trans (zero_mul _ n)
  have ea : ∀ i, cf a i = (cont a : Int) * (cf a i / (cont a : Int)) := fun i => (Int.mul_ediv_cancel' (cont_dvd a i)).symm
  have eb : ∀ i, cf b i = (cont b : Int) * (cf b i / (cont b : Int)) := fun i => (Int.mul_ediv_cancel' (cont_dvd b i)).symm
  have hc : ∀ n, cf c n = ((cont a * cont b : Nat) : Int) * mul (fun i => cf a i / (cont a : Int)) (fun i => cf b i / (cont b : Int)) n := fun n => by
    rw [h, mul_congr ea eb n, smul_mul, mul_smul, ← Int.mul_assoc, Int.natCast_mul]
  have hpos : 0 < cont a * cont b := Nat.mul_pos (by omega) (by omega)
  obtain ⟨e, he⟩ : cont a * cont b ∣ cont c := dvd_cont.2 fun n => by
    rw [hc n, Int.natAbs_mul, Int.natAbs_natCast]; exact Nat.dvd_mul_right _ _
  by_cases h1 : e = 1
  · rw [he, h1, Nat.mul_one]
  exfalso
  -- a prime that divides what is left
  obtain ⟨p, hp, hpe⟩ : ∃ p, Prime p ∧ p ∣ e := by
    rcases Nat.eq_zero_or_pos e with h0 | h0
    · exact ⟨2, prime_two, h0 ▸ Nat.dvd_zero 2⟩
    · exact prime_dvd e (by omega)
  have hall : ∀ n, (p : Int) ∣ mul (fun i => cf a i / (cont a : Int)) (fun i => cf b i / (cont b : Int)) n := fun n => by
    have h2 := dvd_cont.1 (Nat.dvd_refl (cont c)) n
    rw [he, hc n, Int.natAbs_mul, Int.natAbs_natCast] at h2
    exact Int.ofNat_dvd_left.2 (Nat.dvd_trans hpe (Nat.dvd_of_mul_dvd_mul_left hpos h2))
  have hbad : ∀ (l : List Int), cont l ≠ 0 → ¬ ∀ i, (p : Int) ∣ cf l i / (cont l : Int) := fun l hl hd => by
    have h3 : cont l * p ∣ cont l := dvd_cont.2 fun i => by
      have h4 : cf l i = (cont l : Int) * (cf l i / (cont l : Int)) := (Int.mul_ediv_cancel' (cont_dvd l i)).symm
      rw [h4, Int.natAbs_mul, Int.natAbs_natCast]
      exact Nat.mul_dvd_mul_left _ (Int.ofNat_dvd_left.1 (hd i))
    have h5 := Nat.le_of_dvd (by omega) h3
    have h6 : cont l * 2 ≤ cont l * p := Nat.mul_le_mul_left _ hp.1
    omega
  rcases prime_mul hp hall with h3 | h3
  · exact hbad a ha h3
  · exact hbad b hb h3
end Go.Pz
/- Polynomials over the whole numbers: what the loops keep. No program here, but the numbers' cells. -/
namespace Go.Pz
open Go.Nt Go.En
theorem both_len (op : Int → Int → Int) (a b : List Int) : (both op a b).length ≤ max a.length b.length := by
  unfold both; exact Nat.le_trans (norm_len _) (by rw [List.length_map, List.length_range]; exact Nat.le_refl _)
theorem scale_len (a : List Int) (c : Int) : (pscale a c).length ≤ a.length := by
  unfold pscale; exact Nat.le_trans (norm_len _) (by rw [List.length_map]; exact Nat.le_refl _)
theorem shift_len (a : List Int) (n : Nat) : (pshift a n).length = n + a.length := by unfold pshift; rw [List.length_append, List.length_replicate]
theorem both_norm (op : Int → Int → Int) (a b : List Int) : pnorm (both op a b) = both op a b := norm_norm _
theorem scale_norm (a : List Int) (c : Int) : pnorm (pscale a c) = pscale a c := norm_norm _
theorem mul_norm (a b : List Int) : pnorm (pmul a b) = pmul a b := by
  unfold pmul; split
  · rfl
  · exact norm_norm _
theorem zv_nz (z : Int) : zv (nz z).1 (nz z).2 = z := zv_nf z
theorem Bd.one {z : Int} {K : Nat} (h : (List.length (words z.natAbs)) ≤ K) : Bd [z] K := fun i => by
  cases i with
  | zero => exact h
  | succ i => rw [cf_succ, cf_nil, Int.natAbs_zero, words_zero]; exact Nat.zero_le _
theorem Bd.cons {z : Int} {l : List Int} {K : Nat} (h : (List.length (words z.natAbs)) ≤ K) (k : Bd l K) : Bd (z :: l) K := fun i => by
  cases i with
  | zero => exact h
  | succ i => exact k i
theorem step_mul (K m0 n L : Nat) (h : n + 1 ≤ m0) : K + (m0 - n) * (L + 1) = K + (m0 - (n + 1)) * (L + 1) + L + 1 := by
  have e : m0 - n = (m0 - (n + 1)) + 1 := by omega
  rw [e, Nat.succ_mul]; omega
/-- what the rounds of a division keep -/
structure PsI (lead : Int) (B A : List Int) (K L m0 m : Nat) (q a : List Int) : Prop where
  le : m ≤ m0
  go : pseudoGo lead B m q a = pseudoGo lead B m0 [] A
  bq : Bd q (K + (m0 - m) * (L + 1))
  ba : Bd a (K + (m0 - m) * (L + 1))
  lq : q.length ≤ m0
  la : a.length ≤ A.length
  nq : pnorm q = q
  na : pnorm a = a
theorem PsI.start {lead : Int} {B A : List Int} {K L m0 : Nat} (hA : Bd A K) (hn : pnorm A = A) : PsI lead B A K L m0 m0 [] A :=
  ⟨Nat.le_refl _, rfl, Bd.nil _, hA.mono (by omega), Nat.zero_le _, Nat.le_refl _, rfl, hn⟩
theorem PsI.step {lead : Int} {B A : List Int} {K L m0 n : Nat} {q a : List Int} (p : PsI lead B A K L m0 (n + 1) q a) (hl : (List.length (words lead.natAbs)) ≤ L) (hB : Bd B L) (hm : m0 + B.length ≤ A.length + 1) :
    PsI lead B A K L m0 n (padd (pscale q lead) (pshift [cf a (n + B.length - 1)] n)) (psub (pscale a lead) (pshift (pscale B (cf a (n + B.length - 1))) n)) := by
  have e := step_mul K m0 n L p.le
  have hs := p.ba (n + B.length - 1)
  refine ⟨Nat.le_of_succ_le p.le, p.go, ?_, ?_, ?_, ?_, both_norm _ _ _, both_norm _ _ _⟩
  · rw [e]
    exact Bd.add (p.bq.scale hl) (((Bd.one hs).shift n).mono (by omega))
  · rw [e]
    exact Bd.sub (p.ba.scale hl) (((hB.scale hs).shift n).mono (by omega))
  · have h1 := both_len (fun x y => x + y) (pscale q lead) (pshift [cf a (n + B.length - 1)] n)
    have h2 := scale_len q lead
    have h3 := shift_len [cf a (n + B.length - 1)] n
    have h4 := p.le
    have h5 := p.lq
    simp only [List.length_cons, List.length_nil] at h3
    exact Nat.le_trans h1 (by omega)
  · have h1 := both_len (fun x y => x - y) (pscale a lead) (pshift (pscale B (cf a (n + B.length - 1))) n)
    have h2 := scale_len a lead
    have h3 := shift_len (pscale B (cf a (n + B.length - 1))) n
    have h4 := scale_len B (cf a (n + B.length - 1))
    have h5 := p.la
    have h6 := p.le
    exact Nat.le_trans h1 (by omega)
theorem PsI.bnd {lead : Int} {B A : List Int} {K L m0 m : Nat} {q a : List Int} (p : PsI lead B A K L m0 m q a) : Bd q (K + m0 * (L + 1)) ∧ Bd a (K + m0 * (L + 1)) := by
  have h : (m0 - m) * (L + 1) ≤ m0 * (L + 1) := Nat.mul_le_mul_right _ (Nat.sub_le _ _)
  exact ⟨p.bq.mono (by omega), p.ba.mono (by omega)⟩
/-- quotient and rest, where they are told -/
def psd (a b : List Int) : List Int × List Int := if pnorm b = [] then ([], []) else pseudo a b
theorem PsI.done {a b : List Int} {K L m0 : Nat} {q r : List Int} (hb : pnorm b ≠ []) (hm : m0 = (pnorm a).length + 1 - (pnorm b).length) (p : PsI (cf (pnorm b) ((pnorm b).length - 1)) (pnorm b) (pnorm a) K L m0 0 q r) : pnorm q = (psd a b).1 ∧ r = (psd a b).2 := by
  have h := p.go
  unfold psd
  rw [if_neg hb]
  unfold pseudo
  rw [← hm, ← h, p.nq]
  exact ⟨rfl, rfl⟩
theorem pseudoGo_norm {lead : Int} {b : List Int} : ∀ (n : Nat) (q a : List Int), pnorm q = q → pnorm a = a → pnorm (pseudoGo lead b n q a).1 = (pseudoGo lead b n q a).1 ∧ pnorm (pseudoGo lead b n q a).2 = (pseudoGo lead b n q a).2
  | 0, q, a, h1, h2 => ⟨h1, h2⟩
  | n + 1, q, a, _, _ => pseudoGo_norm n _ _ (both_norm _ _ _) (both_norm _ _ _)
theorem psd_norm (a b : List Int) : pnorm (psd a b).1 = (psd a b).1 ∧ pnorm (psd a b).2 = (psd a b).2 := by
  unfold psd
  split
  · exact ⟨rfl, rfl⟩
  · exact pseudoGo_norm _ _ _ rfl (norm_norm _)
theorem psd_bd {a b : List Int} {K L : Nat} (ha : Bd a K) (hb : Bd b L) : Bd (psd a b).1 (K + (a.length + 1) * (L + 1)) ∧ Bd (psd a b).2 (K + (a.length + 1) * (L + 1)) := by
  have hn := norm_len a
  have h : ∀ (m0 n : Nat) (q r : List Int), m0 = (pnorm a).length + 1 - (pnorm b).length → PsI (cf (pnorm b) ((pnorm b).length - 1)) (pnorm b) (pnorm a) K L m0 n q r → Bd (pseudoGo (cf (pnorm b) ((pnorm b).length - 1)) (pnorm b) n q r).1 (K + m0 * (L + 1)) ∧ Bd (pseudoGo (cf (pnorm b) ((pnorm b).length - 1)) (pnorm b) n q r).2 (K + m0 * (L + 1)) := by
    intro m0 n
    induction n with
    | zero => intro q r _ p; exact p.bnd
    | succ n ih =>
      intro q r hm p
      have := p.le
      exact ih _ _ hm (p.step (by rw [cf_norm]; exact hb _) hb.norm (by omega))
  unfold psd
  split
  · exact ⟨Bd.nil _, Bd.nil _⟩
  · have hle : (pnorm a).length + 1 - (pnorm b).length ≤ a.length + 1 := by omega
    have hm := Nat.mul_le_mul_right (L + 1) hle
    have := h _ _ [] (pnorm a) rfl (PsI.start ha.norm (norm_norm _))
    exact ⟨this.1.mono (by omega), this.2.mono (by omega)⟩
theorem pseudoGo_len {lead : Int} {b : List Int} : ∀ (n : Nat) (q a : List Int), (pseudoGo lead b n q a).1.length ≤ max q.length n ∧ (pseudoGo lead b n q a).2.length ≤ max a.length (n + b.length)
  | 0, q, a => ⟨by show q.length ≤ _; omega, by show a.length ≤ _; omega⟩
  | n + 1, q, a => by
    have k := pseudoGo_len (lead := lead) (b := b) n (padd (pscale q lead) (pshift [cf a (n + b.length - 1)] n)) (psub (pscale a lead) (pshift (pscale b (cf a (n + b.length - 1))) n))
    have h1 := both_len (fun x y => x + y) (pscale q lead) (pshift [cf a (n + b.length - 1)] n)
    have h2 := scale_len q lead
    have h3 := shift_len [cf a (n + b.length - 1)] n
    simp only [List.length_cons, List.length_nil] at h3
    have g1 := both_len (fun x y => x - y) (pscale a lead) (pshift (pscale b (cf a (n + b.length - 1))) n)
    have g2 := scale_len a lead
    have g3 := shift_len (pscale b (cf a (n + b.length - 1))) n
    have g4 := scale_len b (cf a (n + b.length - 1))
    have e1 : (padd (pscale q lead) (pshift [cf a (n + b.length - 1)] n)).length ≤ max (pscale q lead).length (pshift [cf a (n + b.length - 1)] n).length := h1
    have e2 : (psub (pscale a lead) (pshift (pscale b (cf a (n + b.length - 1))) n)).length ≤ max (pscale a lead).length (pshift (pscale b (cf a (n + b.length - 1))) n).length := g1
    refine ⟨Nat.le_trans k.1 (by omega), Nat.le_trans k.2 (by omega)⟩
theorem psd_len (a b : List Int) : (psd a b).1.length ≤ a.length + 1 ∧ (psd a b).2.length ≤ a.length + 1 + b.length := by
  have h1 := norm_len a
  have h2 := norm_len b
  unfold psd
  split
  · exact ⟨Nat.zero_le _, Nat.zero_le _⟩
  · have := pseudoGo_len (lead := cf (pnorm b) ((pnorm b).length - 1)) (b := pnorm b) ((pnorm a).length + 1 - (pnorm b).length) [] (pnorm a)
    simp only [List.length_nil] at this
    exact ⟨Nat.le_trans this.1 (by omega), Nat.le_trans this.2 (by omega)⟩
/-- what the rounds of an exact division keep -/
structure ExI (lead : Int) (B A : List Int) (K L m0 m : Nat) (q a : List Int) : Prop where
  le : m ≤ m0
  go : exactGo lead B m q a = exactGo lead B m0 [] A
  bq : Bd q (K + m0 * (L + 1))
  ba : Bd a (K + (m0 - m) * (L + 1))
  lq : q.length = m0 - m
  la : a.length ≤ A.length
  na : pnorm a = a
theorem ExI.start {lead : Int} {B A : List Int} {K L m0 : Nat} (hA : Bd A K) (hn : pnorm A = A) : ExI lead B A K L m0 m0 [] A :=
  ⟨Nat.le_refl _, rfl, Bd.nil _, hA.mono (by omega), by simp, Nat.le_refl _, hn⟩
theorem ExI.bnd {lead : Int} {B A : List Int} {K L m0 m : Nat} {q a : List Int} (p : ExI lead B A K L m0 m q a) : Bd a (K + m0 * (L + 1)) := by
  have h : (m0 - m) * (L + 1) ≤ m0 * (L + 1) := Nat.mul_le_mul_right _ (Nat.sub_le _ _)
  exact p.ba.mono (by omega)
theorem ExI.step {lead : Int} {B A : List Int} {K L m0 n : Nat} {q a : List Int} (p : ExI lead B A K L m0 (n + 1) q a) (hB : Bd B L) (hm : m0 + B.length ≤ A.length + 1) (hd : (cf a (n + B.length - 1)).tmod lead = 0) :
    ExI lead B A K L m0 n ((cf a (n + B.length - 1)).tdiv lead :: q) (psub a (pshift (pscale B ((cf a (n + B.length - 1)).tdiv lead)) n)) := by
  have e := step_mul K m0 n L p.le
  have hs := p.ba (n + B.length - 1)
  have ht : (List.length (words ((cf a (n + B.length - 1)).tdiv lead).natAbs)) ≤ K + (m0 - (n + 1)) * (L + 1) := Nat.le_trans (nz_tdiv _ _) hs
  refine ⟨Nat.le_of_succ_le p.le, ?_, ?_, ?_, ?_, ?_, both_norm _ _ _⟩
  · rw [← p.go]
    show _ = (if _ then _ else _)
    rw [if_pos hd]
  · exact Bd.cons (Nat.le_trans (nz_tdiv _ _) (p.bnd _)) p.bq
  · rw [e]
    exact Bd.sub (p.ba.mono (by omega)) (((hB.scale ht).shift n).mono (by omega))
  · have := p.lq; have := p.le; rw [List.length_cons]; omega
  · have h1 := both_len (fun x y => x - y) a (pshift (pscale B ((cf a (n + B.length - 1)).tdiv lead)) n)
    have h3 := shift_len (pscale B ((cf a (n + B.length - 1)).tdiv lead)) n
    have h4 := scale_len B ((cf a (n + B.length - 1)).tdiv lead)
    have h5 := p.la
    have h6 := p.le
    exact Nat.le_trans h1 (by omega)
/-- the exact quotient, where there is one -/
def exq (a b : List Int) : Option (List Int) := if pnorm b = [] then none else exactGo (cf (pnorm b) ((pnorm b).length - 1)) (pnorm b) ((pnorm a).length + 1 - (pnorm b).length) [] (pnorm a)
theorem exq_nil {a b : List Int} (h : pnorm b = []) : exq a b = none := by unfold exq; rw [if_pos h]
theorem ExI.no {a b : List Int} {K L m0 n : Nat} {q r : List Int} (hb : pnorm b ≠ []) (hm : m0 = (pnorm a).length + 1 - (pnorm b).length) (p : ExI (cf (pnorm b) ((pnorm b).length - 1)) (pnorm b) (pnorm a) K L m0 (n + 1) q r)
    (h : ¬ (cf r (n + (pnorm b).length - 1)).tmod (cf (pnorm b) ((pnorm b).length - 1)) = 0) : exq a b = none := by
  unfold exq
  rw [if_neg hb, ← hm, ← p.go]
  exact if_neg h
theorem ExI.done {a b : List Int} {K L m0 : Nat} {q r : List Int} (hb : pnorm b ≠ []) (hm : m0 = (pnorm a).length + 1 - (pnorm b).length) (p : ExI (cf (pnorm b) ((pnorm b).length - 1)) (pnorm b) (pnorm a) K L m0 0 q r) :
    exq a b = if r = [] then some (pnorm q) else none := by
  unfold exq
  rw [if_neg hb, ← hm, ← p.go]
  show (if pnorm r = [] then _ else _) = _
  rw [p.na]
theorem lead_ne {b : List Int} (h : pnorm b ≠ []) : cf (pnorm b) ((pnorm b).length - 1) ≠ 0 := by rw [cf_norm]; exact norm_last h
theorem rep_set {β : Type} (z x : β) (l : List β) (n : Nat) : (List.replicate (n + 1) z ++ l).set n x = List.replicate n z ++ x :: l := by
  induction n with
  | zero => rfl
  | succ n ih =>
    show z :: (List.replicate (n + 1) z ++ l).set n x = _
    rw [ih]; rfl
/-- content and primitive part -/
theorem cont_take (l : List Int) {i : Nat} (h : i < l.length) : cont (l.take (i + 1)) = Nat.gcd (cont (l.take i)) (cf l i).natAbs := by
  unfold cont
  rw [List.take_add_one, getElem_cf h, Option.toList_some, List.foldl_append]; rfl
theorem gcd_nw {a b K : Nat} (h : (List.length (words a)) ≤ K) (k : (List.length (words b)) ≤ K) : (List.length (words (Nat.gcd a b))) ≤ K := by
  rcases Nat.eq_zero_or_pos a with rfl | ha
  · rw [Nat.gcd_zero_left]; exact k
  · exact Nat.le_trans (nw_mono (Nat.gcd_le_left b ha)) h
theorem cont_nw {l : List Int} {K : Nat} (h : Bd l K) : ∀ i, i ≤ l.length → (List.length (words (cont (l.take i)))) ≤ K
  | 0, _ => by rw [List.take_zero]; show (List.length (words (0 : Nat))) ≤ K; rw [words_zero]; exact Nat.zero_le _
  | i + 1, hi => by rw [cont_take l hi]; exact gcd_nw (cont_nw h i (by omega)) (h i)
theorem cont_nw' {l : List Int} {K : Nat} (h : Bd l K) : (List.length (words (cont l))) ≤ K := by
  have := cont_nw h l.length (Nat.le_refl _)
  rwa [List.take_length] at this
/-- the content, with the sign of the greatest number -/
def scont (l : List Int) : Int := if cf l (l.length - 1) < 0 then -(cont l : Int) else (cont l : Int)
theorem scont_abs (l : List Int) : (scont l).natAbs = cont l := by unfold scont; split <;> omega
def prim (l : List Int) : List Int := (pnorm l).map fun x => x.tdiv (scont (pnorm l))
theorem scont_dvd (l : List Int) (i : Nat) : scont l ∣ cf l i := by
  have h := cont_dvd l i
  unfold scont; split
  · exact Int.neg_dvd.2 h
  · exact h
theorem scont_ne {l : List Int} (h : l ≠ []) (hn : pnorm l = l) : scont l ≠ 0 := fun e => by
  have h1 := scont_abs l
  rw [e] at h1
  have h2 := cont_zero.1 h1.symm
  exact norm_last (l := l) (by rw [hn]; exact h) (h2 _)
theorem cf_mapt (l : List Int) (c : Int) (i : Nat) : cf (l.map fun x => x.tdiv c) i = (cf l i).tdiv c := by
  unfold cf; rw [List.getD, List.getD, List.getElem?_map]
  cases l[i]? with
  | none => exact (Int.zero_tdiv c).symm
  | some z => rfl
theorem cf_prim (l : List Int) (i : Nat) : cf (prim l) i = (cf l i).tdiv (scont (pnorm l)) := by unfold prim; rw [cf_mapt, cf_norm]
theorem prim_back (l : List Int) (i : Nat) : cf (prim l) i * scont (pnorm l) = cf l i := by
  rw [cf_prim]
  have := scont_dvd (pnorm l) i
  rw [cf_norm] at this
  exact Int.tdiv_mul_cancel this
theorem exact_dvd {x c : Int} (h0 : c ≠ 0) (h : c ∣ x) : (if c ≠ 0 ∧ x.tmod c = 0 then x.tdiv c else 0) = x.tdiv c := if_pos ⟨h0, Int.tmod_eq_zero_of_dvd h⟩
end Go.Pz
namespace Go.En
open Go.Nt Go.Pz
theorem zM0 {k : Nat} {r : Mem} : ((some k, cellM [isB false, SlM isU []]) :: r : Mem) = zM k 0 :: r := by
  show _ = (some k, cellM [isB (decide ((0 : Int) < 0)), SlM isU (words (0 : Int).natAbs)]) :: r
  rw [Int.natAbs_zero, words_zero]; rfl
theorem zc_eq {p q : Bool × List Nat} (h : p = q) : Flat (zc p) = Flat (zc q) := h ▸ rfl
theorem isP_nil {l : List Int} (h : l = []) : SlK 2 zc ([] : List (Bool × List Nat)) = isP l := by subst h; rfl
theorem getZ {l : List Int} {i : Nat} (h : i < l.length) : (l.map nz)[i]? = some (nz (cf l i)) := by rw [List.getElem?_map, getElem_cf h]; rfl
theorem exEq {x y x' y' : Int} (h : x = x') (k : y = y') : isTup [isZ (if y ≠ 0 ∧ x.tmod y = 0 then x.tdiv y else 0), isB (decide (y ≠ 0 ∧ x.tmod y = 0))] = isTup [isZ (if y' ≠ 0 ∧ x'.tmod y' = 0 then x'.tdiv y' else 0), isB (decide (y' ≠ 0 ∧ x'.tmod y' = 0))] := by subst h; subst k; rfl
theorem isP_fill (l : List (Bool × List Nat)) (A : List Int) (h : l = A.map nz) : SlK 2 zc l = isP A := by subst h; rfl
theorem bd64 {l : List Int} (h : ∀ y ∈ l, -9223372036854775808 ≤ y ∧ y < 9223372036854775808) : Bd l 1 := fun i => by
  rcases Nat.lt_or_ge i l.length with hi | hi
  · have := h (cf l i) (List.mem_of_getElem? (getElem_cf hi))
    exact nw_small' (by omega)
  · rw [cf_high hi, Int.natAbs_zero, words_zero]; exact Nat.zero_le _
theorem Has.okI {E : Env} {Γ : Ctx} {M : Mem} {x : Operand} {xs : List Int} (h : Has E Γ M x (SlM isI xs)) : ∀ a w F, Sat E Γ M a w F → ∀ y ∈ xs, -9223372036854775808 ≤ y ∧ y < 9223372036854775808 := by
  intro a w F s y hy
  obtain ⟨ad, cap, e, g1, g2, g3, g4⟩ := h a w F s
  obtain ⟨i, hi, rfl⟩ := List.mem_iff_getElem.1 hy
  rcases g4 with g4 | ⟨b, off, _, _, vs, hv, _⟩
  · omega
  · obtain ⟨v, _, h2⟩ := hv.get i (isI xs[i]) (by simp [hi])
    exact ⟨h2.2.1, h2.2.2⟩
end Go.En
/- Contracts: products of polynomials. -/
namespace Go.Proofs.Ytfoclelageohiaa
open Go.En Go.RowKit
set_option linter.unusedVariables false
set_option maxRecDepth 10000
open Go.Nt
open Go.Pz
end Go.Proofs.Ytfoclelageohiaa
/- Contracts: contents, values. -/
namespace Go.Proofs.Ytfoclelageohiaa
open Go.En Go.RowKit
set_option linter.unusedVariables false
set_option maxRecDepth 10000
open Go.Nt
open Go.Pz
end Go.Proofs.Ytfoclelageohiaa
/- Polynomials over the whole numbers: the rounds that make the greatest common divisor. No program here. -/
namespace Go.Pz
open Go.Nt Go.En
theorem prim_len (l : List Int) : (prim l).length = (pnorm l).length := by unfold prim; rw [List.length_map]
theorem prim_nil {l : List Int} : prim l = [] ↔ pnorm l = [] := by
  rw [← List.length_eq_zero_iff, ← List.length_eq_zero_iff, prim_len]
theorem prim_norm (l : List Int) : pnorm (prim l) = prim l := by
  have h : (prim l).take (prim l).length = pnorm (prim l) := by
    refine take_norm ?_ (fun i hi => cf_high hi)
    rcases Nat.eq_zero_or_pos (prim l).length with h | h
    · exact .inl h
    · right
      intro e
      have hb := prim_back l ((prim l).length - 1)
      rw [e, Int.zero_mul, prim_len] at hb
      exact norm_last (by intro h2; rw [prim_len, h2] at h; exact absurd h (by decide)) hb.symm
  rw [List.take_length] at h
  exact h.symm
theorem Bd.prim {l : List Int} {K : Nat} (h : Bd l K) : Bd (prim l) K := fun i => by
  rw [cf_prim]; exact Nat.le_trans (nz_tdiv _ _) (h i)
/-- the rest's degree -/
theorem psd_rest_len {a b : List Int} (hb : pnorm b ≠ []) : (psd a b).2.length < (pnorm b).length := by
  have hp : 0 < (pnorm b).length := List.length_pos_iff.2 hb
  have h := (pseudo_spec (a := a) hb).2
  have hn := (psd_norm a b).2
  have e : (psd a b).2 = (pseudo a b).2 := by unfold psd; rw [if_neg hb]
  rw [← e] at h
  rcases Nat.lt_or_ge (psd a b).2.length (pnorm b).length with h2 | h2
  · exact h2
  · exfalso
    have hne : pnorm (psd a b).2 ≠ [] := by rw [hn]; intro e2; rw [e2, List.length_nil] at h2; omega
    exact norm_last hne (by rw [hn]; exact h _ (by omega))
theorem psd_bd' {a b : List Int} {K : Nat} (ha : Bd a K) (hb : Bd b K) : Bd (psd a b).2 (K + ((pnorm a).length + 1 - (pnorm b).length) * (K + 1)) := by
  have h : ∀ (m0 n : Nat) (q r : List Int), m0 = (pnorm a).length + 1 - (pnorm b).length → PsI (cf (pnorm b) ((pnorm b).length - 1)) (pnorm b) (pnorm a) K K m0 n q r → Bd (pseudoGo (cf (pnorm b) ((pnorm b).length - 1)) (pnorm b) n q r).2 (K + m0 * (K + 1)) := by
    intro m0 n
    induction n with
    | zero => intro q r _ p; exact p.bnd.2
    | succ n ih =>
      intro q r hm p
      have := p.le
      exact ih _ _ hm (p.step (by rw [cf_norm]; exact hb _) hb.norm (by omega))
  unfold psd
  split
  · exact Bd.nil _
  · exact h _ _ [] (pnorm a) rfl (PsI.start ha.norm (norm_norm _))
/-- the rounds -/
def pgcdGo : Nat → List Int → List Int → List Int
  | 0, a, _ => a
  | n + 1, a, b => if b = [] then a else pgcdGo n b (prim (psd a b).2)
def pgcd (a b : List Int) : List Int := pscale (pgcdGo (prim b).length (prim a) (prim b)) (Nat.gcd (cont a) (cont b) : Nat)
theorem pgcdGo_nil (n : Nat) (a : List Int) : pgcdGo n a [] = a := by cases n <;> rfl
structure GcI (C : Nat) (g : List Int) (n : Nat) (a b : List Int) : Prop where
  go : pgcdGo n a b = g
  le : b.length ≤ n
  na : pnorm a = a
  nb : pnorm b = b
  sz : ∃ K, Bd a K ∧ Bd b K ∧ ((b.length < a.length ∧ (K + 1) * 3 ^ a.length ≤ C) ∨ 2 * (K + 1) * 3 ^ (max a.length b.length) ≤ C)
theorem le_three : ∀ d : Nat, d + 2 ≤ 3 ^ (d + 1)
  | 0 => by decide
  | d + 1 => by rw [Nat.pow_succ]; have := le_three d; omega
theorem le_three' : ∀ d : Nat, d + 3 ≤ 3 * 3 ^ d
  | 0 => by decide
  | d + 1 => by rw [Nat.pow_succ]; have := le_three' d; omega
theorem le_pow3 (d : Nat) : d ≤ 3 ^ d := Nat.le_of_lt (Nat.lt_pow_self (by decide))
theorem GcI.start {a b : List Int} {K C : Nat} (ha : Bd a K) (hb : Bd b K) (na : pnorm a = a) (nb : pnorm b = b) (hC : 2 * (K + 1) * 3 ^ (max a.length b.length) ≤ C) : GcI C (pgcdGo b.length a b) b.length a b :=
  ⟨rfl, Nat.le_refl _, na, nb, K, ha, hb, .inr hC⟩
theorem GcI.step {C n : Nat} {g a b : List Int} (p : GcI C g n a b) (h : b ≠ []) : 0 < n ∧ GcI C g (n - 1) b (prim (psd a b).2) := by
  obtain ⟨K, ka, kb, ks⟩ := p.sz
  have hl : 0 < b.length := List.length_pos_iff.2 h
  have hle := p.le
  obtain ⟨m, rfl⟩ : ∃ m, n = m + 1 := ⟨n - 1, by omega⟩
  have hr := psd_rest_len (a := a) (b := b) (by rw [p.nb]; exact h)
  rw [p.nb] at hr
  have hpl : (prim (psd a b).2).length < b.length := by
    rw [prim_len]; exact Nat.lt_of_le_of_lt (norm_len _) hr
  have hbd := psd_bd' ka kb
  rw [p.na, p.nb] at hbd
  have hg := p.go
  unfold pgcdGo at hg
  rw [if_neg h] at hg
  refine ⟨by omega, hg, by show _ ≤ m; omega, p.nb, prim_norm _, K + (a.length + 1 - b.length) * (K + 1), kb.mono (by omega), hbd.prim, .inl ⟨hpl, ?_⟩⟩
  have e1 : K + (a.length + 1 - b.length) * (K + 1) + 1 = (a.length + 1 - b.length + 1) * (K + 1) := by rw [Nat.succ_mul]; omega
  rw [e1]
  rcases ks with ⟨h1, h2⟩ | h2
  · obtain ⟨d, hd⟩ : ∃ d, a.length = b.length + (d + 1) := ⟨a.length - b.length - 1, by omega⟩
    have e2 : a.length + 1 - b.length + 1 = d + 3 := by omega
    rw [e2]
    have h3 : d + 3 ≤ 3 ^ (d + 1) := by have := le_three' d; rw [Nat.pow_succ]; omega
    rw [hd, Nat.pow_add] at h2
    calc (d + 3) * (K + 1) * 3 ^ b.length ≤ 3 ^ (d + 1) * (K + 1) * 3 ^ b.length := Nat.mul_le_mul_right _ (Nat.mul_le_mul_right _ h3)
      _ = (K + 1) * (3 ^ b.length * 3 ^ (d + 1)) := by rw [Nat.mul_comm (3 ^ (d + 1)), Nat.mul_assoc, Nat.mul_comm (3 ^ b.length)]
      _ ≤ C := h2
  · rcases Nat.lt_or_ge b.length a.length with h1 | h1
    · obtain ⟨d, hd⟩ : ∃ d, a.length = b.length + (d + 1) := ⟨a.length - b.length - 1, by omega⟩
      have e2 : a.length + 1 - b.length + 1 = d + 3 := by omega
      rw [e2]
      have h3 : d + 3 ≤ 3 ^ (d + 1) := by have := le_three' d; rw [Nat.pow_succ]; omega
      rw [Nat.max_eq_left (by omega), hd, Nat.pow_add, Nat.mul_assoc] at h2
      calc (d + 3) * (K + 1) * 3 ^ b.length ≤ 3 ^ (d + 1) * (K + 1) * 3 ^ b.length := Nat.mul_le_mul_right _ (Nat.mul_le_mul_right _ h3)
        _ = (K + 1) * (3 ^ b.length * 3 ^ (d + 1)) := by rw [Nat.mul_comm (3 ^ (d + 1)), Nat.mul_assoc, Nat.mul_comm (3 ^ b.length)]
        _ ≤ C := by omega
    · rw [Nat.max_eq_right h1] at h2
      exact Nat.le_trans (Nat.mul_le_mul_right _ (Nat.mul_le_mul_right _ (by omega))) h2
theorem GcI.bnd {C n : Nat} {g a b : List Int} (p : GcI C g n a b) : ∃ K, Bd a K ∧ Bd b K ∧ K + (a.length + 2) * (K + 1) ≤ 3 * C ∧ a.length ≤ C ∧ b.length ≤ C ∧ K ≤ C := by
  obtain ⟨K, ka, kb, ks⟩ := p.sz
  refine ⟨K, ka, kb, ?_⟩
  have e : K + (a.length + 2) * (K + 1) ≤ (a.length + 3) * (K + 1) := by rw [Nat.succ_mul (a.length + 2)]; omega
  have h3 := Nat.mul_le_mul_right (K + 1) (le_three' a.length)
  have hc : (K + 1) * 3 ^ a.length ≤ C ∧ b.length ≤ C := by
    rcases ks with ⟨h1, h2⟩ | h2
    · have h4 : a.length ≤ 3 ^ a.length := le_pow3 _
      have h5 := Nat.mul_le_mul (show 1 ≤ K + 1 by omega) h4
      exact ⟨h2, by omega⟩
    · have h4 : b.length ≤ 3 ^ max a.length b.length := Nat.le_trans (le_pow3 _) (Nat.pow_le_pow_right (by decide) (Nat.le_max_right _ _))
      have h5 : 3 ^ a.length ≤ 3 ^ max a.length b.length := Nat.pow_le_pow_right (by decide) (Nat.le_max_left _ _)
      have h6 := Nat.mul_le_mul_left (K + 1) h5
      have h7 := Nat.mul_le_mul (show 1 ≤ K + 1 by omega) h4
      rw [Nat.mul_assoc] at h2
      exact ⟨by omega, by omega⟩
  have e2 : 3 * 3 ^ a.length * (K + 1) = 3 * ((K + 1) * 3 ^ a.length) := by rw [Nat.mul_assoc, Nat.mul_comm (3 ^ a.length)]
  have h4 : a.length ≤ 3 ^ a.length := le_pow3 _
  have h5 := Nat.mul_le_mul (show 1 ≤ K + 1 by omega) h4
  have h6 := Nat.mul_le_mul (Nat.le_refl (K + 1)) (Nat.one_le_pow a.length 3 (by decide))
  exact ⟨by omega, by omega, hc.2, by omega⟩
end Go.Pz
/- Polynomials over the whole numbers: what the document's answers are. No program here, but the numbers' cells. -/
namespace Go.Pz
open Go.Nt Go.En
def radd (a b : List Int) : List Int := (List.range (max a.length b.length)).map fun i => cf a i + cf b i
theorem radd_len (a b : List Int) : (radd a b).length = max a.length b.length := by unfold radd; rw [List.length_map, List.length_range]
theorem cf_radd (a b : List Int) (i : Nat) : cf (radd a b) i = cf a i + cf b i := by
  unfold radd
  rw [cf_tab]
  split
  · rfl
  · rw [cf_high (l := a) (by omega), cf_high (l := b) (by omega)]; rfl
def rmul (a b : List Int) : List Int := (List.range (a.length + b.length)).map fun n => mul (cf a) (cf b) n
theorem rmul_len (a b : List Int) : (rmul a b).length = a.length + b.length := by unfold rmul; rw [List.length_map, List.length_range]
theorem cf_rmul (a b : List Int) (i : Nat) : cf (rmul a b) i = mul (cf a) (cf b) i := by
  unfold rmul
  rw [cf_tab]
  split
  · rfl
  · exact (mul_high (A := a.length) (B := b.length) (fun i hi => cf_high hi) (fun i hi => cf_high hi) (by omega)).symm
theorem Bd.radd {a b : List Int} {K : Nat} (h : Bd a K) (k : Bd b K) : Bd (radd a b) (K + 1) := fun i => by
  rw [cf_radd]; have := nz_add (cf a i) (cf b i); have := h i; have := k i; omega
theorem Bd.rmul {a b : List Int} {K L : Nat} (h : Bd a K) (k : Bd b L) : Bd (rmul a b) (K + L + a.length) := fun i => by
  rw [cf_rmul, ← cf_pmul]; exact (Bd.mul h k) i
theorem rows_step (f g : Nat → Int) (k i : Nat) (h : k ≤ i) : rows f g k i + f k * g (i - k) = rows f g (k + 1) i := by
  show _ = rows f g k i + if k ≤ i then _ else _
  rw [if_pos h]
theorem rows_full (f g : Nat → Int) (i : Nat) : rows f g (i + 1) i = mul f g i := (mul_rows i f g).symm
theorem esum_nw {l : List Int} {x : Int} {K L : Nat} (h : Bd l K) (hx : (List.length (words x.natAbs)) ≤ L) : ∀ n, (List.length (words (esum l x n).natAbs)) ≤ K + (L + 1) * n + 1 ∧ (List.length (words (x ^ n).natAbs)) ≤ 1 + L * n
  | 0 => by
    constructor
    · show (List.length (words (Int.natAbs 0))) ≤ _
      rw [Int.natAbs_zero, words_zero]; exact Nat.zero_le _
    · rw [Int.pow_zero, nz_one]; omega
  | n + 1 => by
    obtain ⟨h1, h2⟩ := esum_nw h hx n
    have h3 := nz_mul (cf l n) (x ^ n)
    have h4 := h n
    have h5 := nz_add (esum l x n) (cf l n * x ^ n)
    have h6 := nz_mul (x ^ n) x
    have e1 : (L + 1) * (n + 1) = (L + 1) * n + (L + 1) := Nat.mul_succ _ _
    have e2 : L * (n + 1) = L * n + L := Nat.mul_succ _ _
    have e3 : (L + 1) * n = L * n + n := by rw [Nat.add_mul, Nat.one_mul]
    constructor
    · show (List.length (words (esum l x n + cf l n * x ^ n).natAbs)) ≤ _
      omega
    · rw [Int.pow_succ]; omega
/-- normal, and the same -/
def isB2 (l m : List Int) : Bool := decide (pnorm l = l) && decide (psub l m = [])
theorem isB2_true {l m : List Int} (hn : pnorm l = l) (h : ∀ i, cf l i = cf m i) : isB2 l m = true := by
  unfold isB2; rw [decide_eq_true hn, decide_eq_true (sub_nil.2 h)]; rfl
theorem same_norm {a b : List Int} (ha : pnorm a = a) (hb : pnorm b = b) (h : ∀ i, cf a i = cf b i) : a = b := by rw [← ha, ← hb]; exact norm_ext h
theorem same_not {a b : List Int} {i : Nat} (h : ¬ cf a i = cf b i) : decide (psub a b = []) = false := decide_eq_false fun e => h (sub_nil.1 e i)
theorem same_yes {a b : List Int} {n : Nat} (h : ∀ i, i < n → cf a i = cf b i) (ha : a.length ≤ n) (hb : b.length ≤ n) : decide (psub a b = []) = true :=
  decide_eq_true (sub_nil.2 fun i => by
    rcases Nat.lt_or_ge i n with hi | hi
    · exact h i hi
    · rw [cf_high (l := a) (by omega), cf_high (l := b) (by omega)])
theorem normal_iff {l : List Int} : pnorm l = l ↔ l = [] ∨ cf l (l.length - 1) ≠ 0 := by
  constructor
  · intro h
    rcases Classical.em (l = []) with e | e
    · exact .inl e
    · right
      have := norm_last (l := l) (by rw [h]; exact e)
      rwa [h] at this
  · rintro (rfl | h)
    · rfl
    · have := take_norm (l := l) (n := l.length) (.inr h) (fun i hi => cf_high hi)
      rw [List.take_length] at this
      exact this.symm
theorem normal_dead {z : Int} (h : (0 < (((List.length (words z.natAbs)) : Nat) : Int) ∧ dig z.natAbs ((List.length (words z.natAbs)) - 1) = 0) ∨ ((((List.length (words z.natAbs)) : Nat) : Int) = 0 ∧ z < 0)) : False := by
  rcases h with ⟨h1, h2⟩ | ⟨h1, h2⟩
  · refine dig_top (n := z.natAbs) (fun e => ?_) h2
    rw [e, words_zero] at h1; exact absurd h1 (by decide)
  · have := nw_lt z.natAbs
    rw [show (List.length (words z.natAbs)) = 0 by omega, Nat.pow_zero] at this
    omega
theorem normal_end (l : List Int) : (decide (((l.map nz).length : Int) = 0) || !decide (sgn (cf l (l.length - 1)) = 0)) = decide (pnorm l = l) := by
  have h : (decide (pnorm l = l) = true) ↔ (decide (((l.map nz).length : Int) = 0) || !decide (sgn (cf l (l.length - 1)) = 0)) = true := by
    rw [decide_eq_true_eq, normal_iff, Bool.or_eq_true, decide_eq_true_eq, List.length_map, Bool.not_eq_true', decide_eq_false_iff_not, sgn_eq0]
    exact or_congr ⟨fun h => by rw [h]; rfl, fun h => List.eq_nil_of_length_eq_zero (by omega)⟩ Iff.rfl
  exact (Bool.eq_iff_iff.2 h).symm
/-- lists of a size that is looked at -/
def fewB (xs : List (Bool × List Nat)) (n w : Int) : Bool := (xs.take 100).all (fun p => decide ((p.2.length : Int) ≤ w)) && decide ((xs.length : Int) ≤ n)
theorem fewB_no {xs : List (Bool × List Nat)} {n w : Int} {i : Nat} (hi : i < xs.length) (h1 : i < 100) (h : ¬ ((xs.getD i (false, [])).2.length : Int) ≤ w) : fewB xs n w = false := by
  unfold fewB
  have hm : xs.getD i (false, []) ∈ xs.take 100 := by
    rw [List.getD, List.getElem?_eq_getElem hi]
    exact List.mem_take_iff_getElem.2 ⟨i, by omega, rfl⟩
  have : (xs.take 100).all (fun p => decide ((p.2.length : Int) ≤ w)) = false := by
    rw [List.all_eq_false]
    exact ⟨_, hm, by rw [decide_eq_true_eq]; exact h⟩
  rw [this]; rfl
theorem fewB_yes {xs : List (Bool × List Nat)} {n w : Int} {i : Nat} (hi : xs.length ≤ i ∨ 100 ≤ i) (h : ∀ j, j < i → ((xs.getD j (false, [])).2.length : Int) ≤ w) : fewB xs n w = decide ((xs.length : Int) ≤ n) := by
  unfold fewB
  have : (xs.take 100).all (fun p => decide ((p.2.length : Int) ≤ w)) = true := by
    rw [List.all_eq_true]
    intro p hp
    obtain ⟨j, hj, rfl⟩ := List.mem_take_iff_getElem.1 hp
    have := h j (by omega)
    rw [List.getD, List.getElem?_eq_getElem (by omega)] at this
    exact decide_eq_true this
  rw [this]; rfl
theorem fewB_bd {xs : List (Bool × List Nat)} {n w : Int} {N K : Nat} (ok : ∀ p ∈ xs, (∀ y ∈ p.2, y < 18446744073709551616) ∧ p.2.length ≤ 9223372036854775807) (h : fewB xs n w = true) (hn : n = (N : Int)) (hw : w = (K : Int)) (h1 : N ≤ 100) : xs.length ≤ N ∧ Bd (vals xs) K := by
  unfold fewB at h
  rw [Bool.and_eq_true, decide_eq_true_eq, List.all_eq_true] at h
  subst hn; subst hw
  refine ⟨by omega, fun i => ?_⟩
  rw [cf_vals, zv_nw]
  rcases Nat.lt_or_ge i xs.length with hi | hi
  · rw [List.getD, List.getElem?_eq_getElem hi]
    have h2 := h.1 xs[i] (List.mem_take_iff_getElem.2 ⟨i, by omega, rfl⟩)
    rw [decide_eq_true_eq] at h2
    exact Nat.le_trans (nw_val (ok _ (List.getElem_mem hi)).1) (by show xs[i].2.length ≤ K; omega)
  · rw [List.getD, List.getElem?_eq_none (by omega)]
    show (List.length (words (val []))) ≤ K
    rw [show val [] = 0 from rfl, words_zero]; exact Nat.zero_le _
end Go.Pz
/- Contracts: the document's answers on polynomials. -/
namespace Go.Proofs.Ytfoclelageohiaa
open Go.En Go.RowKit
set_option linter.unusedVariables false
set_option maxRecDepth 10000
open Go.Nt
open Go.Pz
set_option maxHeartbeats 4000000 in
theorem ref10_Few {xs : List (Bool × List Nat)} {n w : Int} : Ctr Try.prog 91 [SlK 2 zc xs, isI n, isI w] (isB (fewB xs n w)) := by
  refine Ctr.intro Try.func91 rfl (by kernel_rfl) Try.ntmps91 rfl fun w0 F0 => ?_
  refine Tri.cv (Cv.wk (.cons (t := 0) (Has.t rfl) (.cons (t := 1) (Has.t rfl) (.cons (t := 2) (Has.t rfl) .nil)))) ?_
  refine Tri.fact (Has.lenLt (Has.t (t := 0) rfl)) fun lt0 => ?_
  refine Tri.fact (Has.rngI (Has.t (t := 1) rfl)) fun lt1 => ?_
  refine Tri.fact (Has.rngI (Has.t (t := 2) rfl)) fun lt2 => ?_
  refine Tri.seq fun K1 hK1 => ?_
  refine Tri.region ?_
  refine st (OK1.as (Has.cB false)) rfl ?_
  refine nl ?_
  refine At.thn (hK1 _ _ ?_); clear hK1
  refine Tri.seq fun K2 hK2 => ?_
  refine Tri.seq fun K3 hK3 => ?_
  refine Tri.region ?_
  refine st (OK1.as (Has.cI 0 rfl)) rfl ?_
  refine nl ?_
  refine At.thn (hK3 _ _ ?_); clear hK3
  refine Tri.block ?_
  refine Tri.loopF [0, 1, 2] (fun (z : { i : Nat // i ≤ xs.length ∧ i ≤ 100 ∧ ∀ j, j < i → ((xs.getD j (false, [])).2.length : Int) ≤ w }) => match z with | ⟨i, hi⟩ => [(7, isI (i : Int))]) (fun M => fun (z : { i : Nat // i ≤ xs.length ∧ i ≤ 100 ∧ ∀ j, j < i → ((xs.getD j (false, [])).2.length : Int) ≤ w }) => match z with | ⟨i, hi⟩ => []) (fun (z : { i : Nat // i ≤ xs.length ∧ i ≤ 100 ∧ ∀ j, j < i → ((xs.getD j (false, [])).2.length : Int) ≤ w }) => match z with | ⟨i, hi⟩ => xs.length - i) (⟨0, Nat.zero_le _, by omega, fun j h => absurd h (Nat.not_lt_zero _)⟩) (Cv.mem (.cons (t := 7) (Has.t' rfl ?_) (.cons (t := 0) (Has.t rfl) (.cons (t := 1) (Has.t rfl) (.cons (t := 2) (Has.t rfl) .nil)))) ?_) ?_
  · rfl
  · rfl
  rintro ⟨i, hi, h1, hj⟩ K4 hK4
  refine Tri.cv (Cv.wk (.cons (t := 7) (Has.t rfl) (.cons (t := 0) (Has.t rfl) (.cons (t := 1) (Has.t rfl) (.cons (t := 2) (Has.t rfl) .nil))))) ?_
  refine Tri.memEq (M' := []) rfl ?_
  refine Tri.seq fun K5 hK5 => ?_
  refine Tri.seq fun K6 hK6 => ?_
  refine Tri.region ?_
  refine st (OK1.mv (Has.t rfl)) rfl ?_
  refine st (OK1.mv (Has.t rfl)) rfl ?_
  refine st (OK1.len sl53 (Has.t rfl)) rfl ?_
  refine st (OK1.ltI (Has.t rfl) (Has.t rfl)) rfl ?_
  refine st (OK1.mv (Has.t rfl)) rfl ?_
  refine stT rfl rfl (fun hg => have hg' := BP.t hg; OK1.mv (Has.t rfl)) rfl ?_
  refine stT rfl rfl (fun hg => have hg' := BP.t hg; OK1.ltI (Has.g rfl hg) (Has.cI 100 rfl)) rfl ?_
  refine st (OK1.pickAnd (Has.t rfl) (fun h => Has.g rfl h)) rfl ?_
  refine nl ?_
  refine At.thn (hK6 _ _ ?_); clear hK6
  refine Tri.cond (Has.t rfl) (fun hc1 => ?_) (fun hc1 => ?_)
  · have hc1 := BP.t hc1
    refine Tri.skip ?_
    refine At.thn (hK5 _ _ ?_); clear hK5
    refine Tri.seq fun K7 hK7 => ?_
    refine Tri.block ?_
    refine Tri.seq fun K8 hK8 => ?_
    refine Tri.region ?_
    refine st (OK1.mv (Has.t rfl)) rfl ?_
    refine st (OK1.mv (Has.t rfl)) rfl ?_
    refine st (OK1.ixK sl53 ty59 (Has.t rfl) (Has.t rfl) zc_len ⟨by omega, by omega⟩ (getD_some (d := (false, [])) (by first | omega | (simp only [Int.toNat_natCast, List.length_set]; omega)))) rfl ?_
    refine st (OK1.fieldAddrP (Has.t rfl) fld59_1 ty57 (Ss' := [_]) rfl) rfl ?_
    refine st (OK1.loadP1 (Has.t rfl) ty57) rfl ?_
    refine st (OK1.len sl57 (Has.t rfl)) rfl ?_
    refine st (OK1.mv (Has.t rfl)) rfl ?_
    refine st (OK1.gtI (Has.t rfl) (Has.t rfl)) rfl ?_
    refine nl ?_
    refine At.thn (hK8 _ _ ?_); clear hK8
    refine Tri.cond (Has.t rfl) (fun hc2 => ?_) (fun hc2 => ?_)
    · have hc2 := BP.t hc2
      have hNo : ¬ ((xs.getD i (false, [])).2.length : Int) ≤ w := (by simp only [Int.toNat_natCast] at hc2; omega)
      refine Tri.seq fun K9 hK9 => ?_
      refine Tri.region ?_
      refine st (OK1.as (Has.cB false)) rfl ?_
      refine nl ?_
      refine At.thn (hK9 _ _ ?_); clear hK9
      refine Tri.ret ?_
      refine At.blr ?_
      refine At.thr ?_
      refine At.thr ?_
      refine At.blr ?_
      refine At.thr ?_
      refine rt1 (.inl rfl) Try.results91 rfl (.tmp (Has.t' rfl ?_) .nil)
      all_goals (exact isB_eq (fewB_no (by omega) (by omega) hNo).symm)
    · have hc2 := BP.f hc2
      have hLe : ((xs.getD i (false, [])).2.length : Int) ≤ w := (by simp only [Int.toNat_natCast] at hc2; omega)
      refine Tri.skip ?_
      refine At.bln ?_
      refine At.thn (hK7 _ _ ?_); clear hK7
      refine Tri.region ?_
      refine st (OK1.mv (Has.t rfl)) rfl ?_
      refine st (OK1.addI (Has.t rfl) (Has.cI 1 rfl) (by first | omega | assumption) (by first | omega | assumption)) rfl ?_
      refine st (OK1.as (Has.t rfl)) rfl ?_
      refine nl ?_
      refine At.thn ?_
      refine hK4 (⟨i + 1, by omega, by omega, fun j h => by rcases Nat.lt_or_ge j i with h2 | h2; exact hj j h2; rw [show j = i by omega]; exact hLe⟩) _ _ ?_ (Cv.mem (.cons (t := 7) (Has.t' rfl ?_) (.cons (t := 0) (Has.t rfl) (.cons (t := 1) (Has.t rfl) (.cons (t := 2) (Has.t rfl) .nil)))) ?_)
      · show xs.length - (i + 1) < xs.length - i; omega
      · exact isI_eq (by omega)
      · rfl
  · have hc1 := BP.f hc1
    refine Tri.exit ?_
    refine At.the ?_
    refine At.the ?_
    refine At.blh ?_
    refine At.thn (hK2 _ _ ?_); clear hK2
    refine Tri.cv (Cv.wk (.cons (t := 0) (Has.t rfl) (.cons (t := 1) (Has.t rfl) .nil))) ?_
    refine Tri.seq fun K10 hK10 => ?_
    refine Tri.region ?_
    refine st (OK1.mv (Has.t rfl)) rfl ?_
    refine st (OK1.len sl53 (Has.t rfl)) rfl ?_
    refine st (OK1.mv (Has.t rfl)) rfl ?_
    refine st (OK1.leI (Has.t rfl) (Has.t rfl)) rfl ?_
    refine st (OK1.as (Has.t rfl)) rfl ?_
    refine nl ?_
    refine At.thn (hK10 _ _ ?_); clear hK10
    refine Tri.cv (Cv.wk (.cons (t := 6) (Has.t rfl) .nil)) ?_
    refine Tri.ret ?_
    refine rt1 (.inl rfl) Try.results91 rfl (.tmp (Has.t' rfl ?_) .nil)
    all_goals (exact isB_eq (fewB_yes (by omega) hj).symm)
end Go.Proofs.Ytfoclelageohiaa
/- A drawn region with an effect that stands behind all ahead of it, and one more reading beside it. -/
namespace Go.En
open Go.RowKit
set_option linter.unusedVariables false
section
variable {E : Env} {P : Program} {Γ : Ctx} {M : Mem} {ty : TypeId} {pos : String} {after : Array Edge}
  {ops : Array Oper} {Q : Exit → Act → World → Prop} {rest : List Oper}
theorem any_one {l : List Oper} {i fuel : Nat} {o : Oper} {listed : Array Bool} {a : Act} {w : World} (hr : ∀ j, j ∈ Region.ready .any l.toArray listed → j = i) (hi : i ∈ Region.ready .any l.toArray listed) (ho : l[i]? = some o)
    (hl : wpList P l.toArray Q (o :: rest) a w) (hn : ∀ a w, wpList P l.toArray Q rest a w → wpAny P .any l.toArray Q fuel (listed.setIfInBounds i true) a w) : wpAny P .any l.toArray Q (fuel + 1) listed a w := by
  refine ⟨fun h0 => ?_, fun j hj => ?_⟩
  · rw [h0] at hi; simp at hi
  · obtain rfl := hr j hj
    have ho' : l.toArray[j]? = some o := by simpa using ho
    unfold wpOp
    rw [ho']
    simp only []
    unfold wpList at hl
    split
    · rename_i hw; rw [if_pos hw] at hl; exact hl.imp (Oper.wp_mono hn) id
    · rename_i hw; rw [if_neg hw] at hl; exact hn _ _ hl
def behindAll (l : List Oper) (n : Nat) : Bool := (List.range n).all fun j => (((masks l [])[n]?).getD 0).testBit j
/-- p's edges lead to the first n -/
def edgesTo (l : List Oper) (n : Nat) : Bool := match l[n + 1]? with
  | none => false
  | some o => o.after.toList.all fun e => !Region.binds .any e || Nat.blt e.on n
theorem phaseE {l : List Oper} {n dp : Nat} {Ss : List VP} {Sp : VP} {oe op : Oper} (hD : Dr E P l Γ M n Ss) (hap : apartB l n Γ = true) (htl : tailB l (n + 2) = true) (he : behindAll l n = true) (hed : edgesTo l n = true)
    (hoe : l[n]? = some oe) (hop : l[n + 1]? = some op) (hdp : op.dst = some dp) (hdn : dp < E.n) (hpG : ∀ t S, look Γ t = some S → t ≠ dp) (hpA : ∀ j e, j < n → (l[j]?).bind (·.dst) = some e → e ≠ dp)
    (hok : OKG E P l.toArray Γ M op Sp)
    (k1 : Ops E P l.toArray Q (l.drop n) (dctx (l.take n) Ss ++ Γ) M) (k2 : Ops E P l.toArray Q (oe :: l.drop (n + 2)) ((dp, Sp) :: (dctx (l.take n) Ss ++ Γ)) M) :
    ∀ (fuel : Nat) (listed : Array Bool) (a : Act) (w : World) (F : Blk), listed.toList.countP (· == false) ≤ fuel → listed.size = l.length →
    (∀ j, n ≤ j → j ≠ n + 1 → j < l.length → listed.getD j true = false) → Closed l (fun j => listed.getD j false = true) → Sat E Γ M a w F → Done l Ss (fun j => listed.getD j false = true) a w F →
    (listed.getD (n + 1) false = true → Sp.h w F (a.tmps.getD dp undef)) →
    wpAny P .any l.toArray Q fuel listed a w := by
  obtain ⟨hlen, hat⟩ := hD.at
  have hsp := tailB_spec htl
  have hnl : n + 1 < l.length := by
    rcases Nat.lt_or_ge (n + 1) l.length with h' | h'
    · exact h'
    · rw [List.getElem?_eq_none h'] at hop; cases hop
  have gd : ∀ (listed : Array Bool) j, j < listed.size → listed.getD j true = listed.getD j false := fun listed j hj => by simp [hj]
  have hapart : ∀ i d, i < n → (l[i]?).bind (·.dst) = some d → (∀ t S, look Γ t = some S → t ≠ d) ∧ ∀ j e, j < n → j ≠ i → (l[j]?).bind (·.dst) = some e → e ≠ d := by
    intro i d hi hd
    unfold apartB at hap
    rw [List.all_eq_true] at hap
    have h1 := hap i (by simpa using hi)
    rw [hd] at h1
    simp only [Bool.and_eq_true] at h1
    refine ⟨look_none h1.1, fun j e hj hne he => ?_⟩
    have h2 := List.all_eq_true.1 h1.2 j (by simpa using hj)
    rw [he] at h2
    simp only [Bool.or_eq_true, Bool.not_eq_true'] at h2
    rcases h2 with h2 | h2
    · exact absurd (Nat.eq_of_beq_eq_true h2).symm hne
    · exact fun e' => Nat.ne_of_beq_eq_false h2 e'.symm
  -- the edges of e lead back
  have hedge : ∀ (i : Nat) (o : Oper), l[i]? = some o → ∀ e ∈ o.after, Region.binds .any e = true → e.on < i := hsp.1
  have hpe : ∀ e ∈ op.after, Region.binds .any e = true → e.on < n := by
    intro e h hb
    unfold edgesTo at hed
    rw [hop] at hed
    have := List.all_eq_true.1 hed e (by simpa using h)
    rw [hb] at this
    simpa [Nat.blt_eq] using this
  -- what is ready is of these kinds
  have hready : ∀ (listed : Array Bool), listed.size = l.length → (∀ j, n ≤ j → j ≠ n + 1 → j < l.length → listed.getD j true = false) → Closed l (fun j => listed.getD j false = true) →
      ∀ i, i ∈ Region.ready .any l.toArray listed → i < n ∨ i = n + 1 ∨ (i = n ∧ ∀ j, j < n → listed.getD j false = true) := by
    intro listed hsz htail hc i hi
    rw [mem_ready] at hi
    obtain ⟨g1, o, g2, g3⟩ := hi
    have g2' : l[i]? = some o := by simpa using g2
    have hil : i < l.length := by
      rcases Nat.lt_or_ge i l.length with h' | h'
      · exact h'
      · rw [List.getElem?_eq_none h'] at g2'; cases g2'
    rcases Nat.lt_or_ge i n with h | h
    · exact .inl h
    · by_cases h1 : i = n + 1
      · exact .inr (.inl h1)
      · rcases Nat.lt_or_ge i (n + 2) with h2 | h2
        · have hin : i = n := by omega
          refine .inr (.inr ⟨hin, fun j hj => ?_⟩)
          subst hin
          have hmask : i < (masks l []).length := by rw [masks_len]; simpa using hil
          unfold behindAll at he
          have hb := List.all_eq_true.1 he j (by simpa using hj)
          rw [List.getElem?_eq_getElem hmask] at hb
          exact reach hc i o g2' g3 j _ (List.getElem?_eq_getElem hmask) (by simpa using hb)
        · exfalso
          obtain ⟨m, hm, hb⟩ := hsp.2 i hil h2 n (by omega)
          have := reach hc i o g2' g3 n m hm hb
          have e0 := htail n (Nat.le_refl _) (by omega) (by omega)
          rw [gd listed n (by omega)] at e0
          have e2 : listed.getD n false = true := this
          rw [e2] at e0; cases e0
  -- the tail
  have hend : ∀ (fuel : Nat) (listed : Array Bool) (a : Act) (w : World), l.length - (n + 2) ≤ fuel → listed.size = l.length → (∀ j, j < n + 2 → listed.getD j false = true) → (∀ j, n + 2 ≤ j → j < l.length → listed.getD j true = false) →
      Closed l (fun j => listed.getD j false = true) → wpList P l.toArray Q (l.drop (n + 2)) a w → wpAny P .any l.toArray Q fuel listed a w := by
    intro fuel listed a w hf hsz h1 h2 hc hl
    exact phaseB htl fuel (n + 2) listed a w (Nat.le_refl _) hf hsz (fun j hj hjl => by rw [gd listed j (by omega)]; exact h1 j hj) h2 hc hl
  have hclosed : ∀ (listed : Array Bool) (i : Nat) (o : Oper), l[i]? = some o → (∀ e ∈ o.after, Region.binds .any e = true → listed.getD e.on false = true) → Closed l (fun j => listed.getD j false = true) →
      Closed l (fun j => (listed.setIfInBounds i true).getD j false = true) := by
    intro listed i o ho hall hc j oj hj hL e hee hb
    by_cases ek : j = i
    · subst ek
      rw [ho] at hj; obtain rfl := Option.some.inj hj
      exact getD_set_true (hall e hee hb)
    · exact getD_set_true (hc j oj hj (by
        have hL' : (listed.setIfInBounds i true).getD j false = true := hL
        rwa [getD_set_ne false (fun h => ek h.symm)] at hL') e hee hb)
  have hself : ∀ (listed : Array Bool) (i : Nat), i < listed.size → (listed.setIfInBounds i true).getD i false = true := fun listed i hi => by simp [hi]
  -- e, with all ahead done, p done: what is ready is e alone
  have hS2 : ∀ (fuel : Nat) (listed : Array Bool) (a : Act) (w : World), l.length - (n + 2) + 1 ≤ fuel → listed.size = l.length → (∀ j, j < n → listed.getD j false = true) → listed.getD (n + 1) false = true → (∀ j, n ≤ j → j ≠ n + 1 → j < l.length → listed.getD j true = false) →
      Closed l (fun j => listed.getD j false = true) → wpList P l.toArray Q (oe :: l.drop (n + 2)) a w → wpAny P .any l.toArray Q fuel listed a w := by
    intro fuel listed a w hf hsz hall hp htail hc hl
    obtain ⟨f, rfl⟩ : ∃ f, fuel = f + 1 := ⟨fuel - 1, by omega⟩
    have hnin : n ∈ Region.ready .any l.toArray listed := by
      rw [mem_ready]
      exact ⟨htail n (Nat.le_refl _) (by omega) (by omega), oe, by simpa using hoe, fun e h hb => hall _ (hedge n oe hoe e h hb)⟩
    refine any_one (i := n) (fun j hj => ?_) hnin hoe hl fun a w hl' => ?_
    · rcases hready listed hsz htail hc j hj with h | h | h
      · rw [mem_ready] at hj
        have := hj.1
        rw [gd listed j (by omega), hall j h] at this; cases this
      · subst h
        rw [mem_ready] at hj
        have := hj.1
        rw [gd listed _ (by omega), hp] at this; cases this
      · exact h.1
    · refine hend f _ a w (by omega) (by simp [hsz]) (fun j hj => ?_) (fun j hj hjl => ?_) (hclosed listed n oe hoe (fun e h hb => hall _ (hedge n oe hoe e h hb)) hc) hl'
      · by_cases ej : j = n
        · subst ej; exact hself listed j (by omega)
        · refine getD_set_true ?_
          by_cases e1 : j = n + 1
          · subst e1; exact hp
          · exact hall j (by omega)
      · rw [getD_set_ne true (by omega)]; exact htail j (by omega) (by omega) hjl
  -- e, with all ahead done, p not yet
  have hS1 : ∀ (fuel : Nat) (listed : Array Bool) (a : Act) (w : World) (F : Blk), l.length - n ≤ fuel → listed.size = l.length → (∀ j, j < n → listed.getD j false = true) → listed.getD (n + 1) false = false → (∀ j, n ≤ j → j ≠ n + 1 → j < l.length → listed.getD j true = false) →
      Closed l (fun j => listed.getD j false = true) → Sat E (dctx (l.take n) Ss ++ Γ) M a w F → Sat E Γ M a w F → (∀ t S, look (dctx (l.take n) Ss ++ Γ) t = some S → t ≠ dp) → wpAny P .any l.toArray Q fuel listed a w := by
    intro fuel listed a w F hf hsz hall hp htail hc s s0 hne
    obtain ⟨f, rfl⟩ : ∃ f, fuel = f + 2 := ⟨fuel - 2, by omega⟩
    have hl1 := k1 a w F s
    have hdrop : l.drop n = oe :: l.drop (n + 1) := by
      rw [List.drop_eq_getElem_cons (by omega)]
      have : l[n] = oe := by rw [List.getElem?_eq_getElem (by omega)] at hoe; exact Option.some.inj hoe
      rw [this]
    have hdrop2 : l.drop (n + 1) = op :: l.drop (n + 2) := by
      rw [List.drop_eq_getElem_cons hnl]
      have : l[n + 1] = op := by rw [List.getElem?_eq_getElem hnl] at hop; exact Option.some.inj hop
      rw [this]
    rw [hdrop] at hl1
    have hnin : n ∈ Region.ready .any l.toArray listed := by
      rw [mem_ready]
      exact ⟨htail n (Nat.le_refl _) (by omega) (by omega), oe, by simpa using hoe, fun e h hb => hall _ (hedge n oe hoe e h hb)⟩
    refine ⟨fun h0 => by rw [h0] at hnin; simp at hnin, fun i hi => ?_⟩
    rcases hready listed hsz htail hc i hi with h | h | h
    · exfalso
      rw [mem_ready] at hi
      have := hi.1
      rw [gd listed i (by omega), hall i h] at this; cases this
    · subst h
      have ho' : l.toArray[n + 1]? = some op := by simpa using hop
      unfold wpOp
      rw [ho']
      have hstep := hok a w F s0 (wpAny P .any l.toArray Q (f + 1) (listed.setIfInBounds (n + 1) true)) Q
      refine hstep fun v w' F' ad hv => ?_
      rw [hdp]
      have s1 := s.adv ad
      have s2 : Sat E ((dp, Sp) :: (dctx (l.take n) Ss ++ Γ)) M (a.put (some dp) v) w' F' := s1.put hdn hv
      refine hS2 (f + 1) _ _ w' (by omega) (by simp [hsz]) (fun j hj => getD_set_true (hall j hj)) (hself listed _ (by omega)) (fun j hj hj2 hjl => ?_) (hclosed listed (n + 1) op hop (fun e h hb => hall _ (hpe e h hb)) hc) (k2 _ _ F' s2)
      rw [getD_set_ne true (fun h => hj2 h.symm)]; exact htail j hj hj2 hjl
    · obtain ⟨rfl, _⟩ := h
      have ho' : l.toArray[i]? = some oe := by simpa using hoe
      have hgo : ∀ a w, wpList P l.toArray Q (l.drop (i + 1)) a w → wpAny P .any l.toArray Q (f + 1) (listed.setIfInBounds i true) a w := by
        intro a w hl'
        rw [hdrop2] at hl'
        have hc' := hclosed listed i oe hoe (fun e h hb => hall _ (hedge i oe hoe e h hb)) hc
        have hpin : i + 1 ∈ Region.ready .any l.toArray (listed.setIfInBounds i true) := by
          rw [mem_ready]
          refine ⟨by rw [getD_set_ne true (by omega), gd listed _ (by omega)]; exact hp, op, by simpa using hop, fun e h hb => getD_set_true (hall _ (hpe e h hb))⟩
        refine any_one (i := i + 1) (fun j hj => ?_) hpin hop hl' fun a w hl2 => ?_
        · rw [mem_ready] at hj
          obtain ⟨g1, o, g2, g3⟩ := hj
          have g2' : l[j]? = some o := by simpa using g2
          have hjl : j < l.length := by
            rcases Nat.lt_or_ge j l.length with h' | h'
            · exact h'
            · rw [List.getElem?_eq_none h'] at g2'; cases g2'
          rcases Nat.lt_trichotomy j (i + 1) with h | h | h
          · exfalso
            have hjj : (listed.setIfInBounds i true).getD j false = true := by
              by_cases e : j = i
              · subst e; exact hself listed j (by omega)
              · exact getD_set_true (hall j (by omega))
            rw [gd _ j (by simp; omega), hjj] at g1; cases g1
          · exact h
          · exfalso
            obtain ⟨m, hm, hb⟩ := hsp.2 j hjl (by omega) (i + 1) (by omega)
            have := reach hc' j o g2' g3 (i + 1) m hm hb
            have e0 : (listed.setIfInBounds i true).getD (i + 1) false = false := by rw [getD_set_ne false (by omega)]; exact hp
            have e2 : (listed.setIfInBounds i true).getD (i + 1) false = true := this
            rw [e2] at e0; cases e0
        · refine hend f _ a w (by omega) (by simp [hsz]) (fun j hj => ?_) (fun j hj hjl => ?_) (hclosed _ (i + 1) op hop (fun e h hb => getD_set_true (hall _ (hpe e h hb))) hc') hl2
          · by_cases e1 : j = i + 1
            · subst e1; exact hself _ _ (by simp; omega)
            · refine getD_set_true ?_
              by_cases e : j = i
              · subst e; exact hself listed j (by omega)
              · exact getD_set_true (hall j (by omega))
          · rw [getD_set_ne true (by omega), getD_set_ne true (by omega)]; exact htail j (by omega) (by omega) hjl
      unfold wpOp
      rw [ho']
      simp only []
      unfold wpList at hl1
      split
      · rename_i hw; rw [if_pos hw] at hl1; exact hl1.imp (Oper.wp_mono hgo) id
      · rename_i hw; rw [if_neg hw] at hl1; exact hgo _ _ hl1
  have hdone' : ∀ (listed : Array Bool) (a : Act) (w : World) (F : Blk), listed.size = l.length → (∀ j, j < n → listed.getD j false = true) → Sat E Γ M a w F → Done l Ss (fun j => listed.getD j false = true) a w F → Sat E (dctx (l.take n) Ss ++ Γ) M a w F := by
    intro listed a w F hsz hall s hdone
    refine s.wider fun t S ht => ?_
    rw [look_append] at ht
    cases hl : look (dctx (l.take n) Ss) t with
    | none => rw [hl] at ht; exact s.slots t S (by simpa using ht)
    | some S' =>
      rw [hl] at ht
      obtain rfl : S' = S := by simpa using ht
      obtain ⟨j, o, h1, h2, h3⟩ := look_dctx _ _ _ _ hl
      have hj : j < n := by
        rcases Nat.lt_or_ge j n with h' | h'
        · exact h'
        · rw [List.getElem?_eq_none (by omega)] at h3; cases h3
      rw [List.getElem?_take_of_lt hj] at h1
      exact hdone j o t S' (hall j hj) h1 h2 h3
  have hkeys : ∀ t S, look (dctx (l.take n) Ss ++ Γ) t = some S → t ≠ dp := by
    intro t S ht
    rw [look_append] at ht
    cases hl : look (dctx (l.take n) Ss) t with
    | none => rw [hl] at ht; exact hpG t S (by simpa using ht)
    | some S' =>
      obtain ⟨j, o, h1, h2, h3⟩ := look_dctx _ _ _ _ hl
      have hj : j < n := by
        rcases Nat.lt_or_ge j n with h' | h'
        · exact h'
        · rw [List.getElem?_eq_none (by omega)] at h3; cases h3
      rw [List.getElem?_take_of_lt hj] at h1
      exact hpA j t hj (by rw [h1]; exact h2)
  have hcount : ∀ (listed : Array Bool), listed.size = l.length → (∀ j, n ≤ j → j ≠ n + 1 → j < l.length → listed.getD j true = false) → l.length - (n + 2) + 1 ≤ listed.toList.countP (· == false) ∧ (listed.getD (n + 1) false = false → l.length - n ≤ listed.toList.countP (· == false)) := by
    intro listed hsz htail
    have h1 : listed.toList.countP (· == false) = (listed.toList.take n).countP (· == false) + (listed.toList.drop n).countP (· == false) := by
      rw [← List.countP_append, List.take_append_drop]
    have hl2 : listed.toList.drop n = listed.toList[n]'(by simp; omega) :: listed.toList[n + 1]'(by simp; omega) :: listed.toList.drop (n + 2) := by
      rw [List.drop_eq_getElem_cons (by simp; omega), List.drop_eq_getElem_cons (by simp; omega)]
    have hn0 : listed.toList[n]'(by simp; omega) = false := by
      have := htail n (Nat.le_refl _) (by omega) (by omega)
      have hlt : n < listed.size := by omega
      simp [hlt] at this; simpa using this
    have h3 : (listed.toList.drop (n + 2)).countP (· == false) = (listed.toList.drop (n + 2)).length := by
      rw [List.countP_eq_length]
      intro b hb
      obtain ⟨j, hj, rfl⟩ := List.mem_iff_getElem.1 hb
      simp at hj
      have := htail (n + 2 + j) (by omega) (by omega) (by omega)
      have hlt : n + 2 + j < listed.size := by omega
      simp [hlt] at this
      simp [this]
    have h5 : (listed.toList.drop (n + 2)).length = l.length - (n + 2) := by rw [List.length_drop, Array.length_toList, hsz]
    rw [h5] at h3
    rw [hl2, List.countP_cons, List.countP_cons, h3, hn0] at h1
    simp only [beq_self_eq_true, if_true] at h1
    refine ⟨by omega, fun hp => ?_⟩
    have hlt : n + 1 < listed.size := by omega
    simp [hlt] at hp
    have : listed.toList[n + 1]'(by simp; omega) = false := by simpa using hp
    rw [this] at h1
    simp only [beq_self_eq_true, if_true] at h1
    omega
  intro fuel
  induction fuel with
  | zero =>
    intro listed a w F hcnt hsz htail hc s hdone hpd
    have := (hcount listed hsz htail).1
    omega
  | succ fuel ih =>
    intro listed a w F hcnt hsz htail hc s hdone hpd
    by_cases hall : ∀ j, j < n → listed.getD j false = true
    · obtain ⟨hc1, hc2⟩ := hcount listed hsz htail
      have s1 := hdone' listed a w F hsz hall s hdone
      cases hp : listed.getD (n + 1) false with
      | true =>
        refine hS2 (fuel + 1) listed a w (by omega) hsz hall hp htail hc (k2 a w F (s1.wider fun t S ht => ?_))
        simp only [look] at ht
        cases hb : Nat.beq dp t with
        | true =>
          rw [hb] at ht
          obtain rfl : Sp = S := by simpa using ht
          obtain rfl := Nat.eq_of_beq_eq_true hb
          exact hpd hp
        | false => rw [hb] at ht; exact s1.slots t S ht
      | false => exact hS1 (fuel + 1) listed a w F (by have := hc2 hp; omega) hsz hall hp htail hc s1 s hkeys
    · have hex : ∃ j, j < n ∧ listed.getD j true = false := by
        refine Classical.byContradiction fun hno => hall fun j hj => ?_
        rw [← gd listed j (by omega)]
        cases hb : listed.getD j true with
        | true => rfl
        | false => exact absurd ⟨j, hj, hb⟩ hno
      refine ⟨fun hr => ?_, fun i hi => ?_⟩
      · obtain ⟨j, ⟨hj1, hj2⟩, hmin⟩ := exists_least hex
        have : j ∈ Region.ready .any l.toArray listed := by
          rw [mem_ready]
          have hjl : j < l.length := by omega
          refine ⟨hj2, l[j], by simp [hjl], fun e he hb => ?_⟩
          have hlt := hsp.1 j _ (List.getElem?_eq_getElem hjl) e he hb
          cases hbb : listed.getD e.on true with
          | true => rw [gd listed e.on (by omega)] at hbb; exact hbb
          | false => have := hmin e.on ⟨by omega, hbb⟩; omega
        rw [hr] at this; simp at this
      · have hi' := hi
        rw [mem_ready] at hi
        obtain ⟨g1, o, g2, g3⟩ := hi
        have g2' : l[i]? = some o := by simpa using g2
        have hil : i < l.length := by
          rcases Nat.lt_or_ge i l.length with h' | h'
          · exact h'
          · rw [List.getElem?_eq_none h'] at g2'; cases g2'
        have hcnt' : (listed.setIfInBounds i true).toList.countP (· == false) ≤ fuel := by
          have hlt : i < listed.toList.length := by simp; omega
          have hli : listed.toList[i] = false := by
            have : i < listed.size := by omega
            simp [this] at g1; simpa using g1
          rw [Array.toList_setIfInBounds, List.countP_set hlt]
          rw [hli]
          have hpos : 0 < listed.toList.countP (· == false) := List.countP_pos_iff.2 ⟨false, by rw [← hli]; exact List.getElem_mem _, rfl⟩
          simp only [beq_self_eq_true, if_true]
          show _ - 1 + 0 ≤ fuel
          omega
        have hc' := hclosed listed i o g2' g3 hc
        rcases hready listed hsz htail hc i hi' with hin | hin | hin
        · obtain ⟨o', d, S, Δ, a1, a2, a3, a4, a6, a7⟩ := hat i hin
          rw [g2'] at a1; obtain rfl := Option.some.inj a1
          have hbind : (l[i]?).bind (·.dst) = some d := by rw [g2']; exact a2
          obtain ⟨ap1, ap2⟩ := hapart i d hin hbind
          have hsat : Sat E Δ M a w F := s.wider (fun t S' ht => by
            rcases a6 t S' ht with ⟨j, oj, b0, b1, b2, b3⟩ | h
            · have hmask : i < (masks l []).length := by rw [masks_len]; simpa using hil
              rw [List.getElem?_eq_getElem hmask] at b0
              exact hdone j oj t S' (reach hc i o g2' g3 j _ (List.getElem?_eq_getElem hmask) (by simpa using b0)) b1 b2 b3
            · exact s.slots t S' h)
          have hstep := a7 a w F hsat (wpAny P .any l.toArray Q fuel (listed.setIfInBounds i true)) Q
          have hgo : ∀ v w' F', Adv w F w' F' → S.h w' F' v → wpAny P .any l.toArray Q fuel (listed.setIfInBounds i true) (a.put o.dst v) w' := by
            intro v w' F' ad hv
            rw [a2]
            have s1 := s.adv ad
            refine ih _ _ w' F' hcnt' (by simp [hsz]) (fun j hj hj2 hjl => ?_) hc' (s1.putOut a3 v ap1) ?_ (fun hp => ?_)
            · rw [getD_set_ne true (by omega)]; exact htail j hj hj2 hjl
            · intro j oj dj Sj hL hj hdj hSj
              rw [getD_put (by rw [s1.size]; exact a3)]
              by_cases ek : j = i
              · subst ek
                rw [g2'] at hj; obtain rfl := Option.some.inj hj
                rw [a2] at hdj; obtain rfl := Option.some.inj hdj
                rw [a4] at hSj; obtain rfl := Option.some.inj hSj
                rw [if_pos rfl]; exact hv
              · have hjn : j < n := by
                  rcases Nat.lt_or_ge j n with h' | h'
                  · exact h'
                  · rw [List.getElem?_eq_none (by omega)] at hSj; cases hSj
                have hne := ap2 j dj hjn ek (by rw [hj]; exact hdj)
                rw [if_neg (fun e => hne e.symm)]
                refine Sj.mono _ _ _ _ _ (hdone j oj dj Sj ?_ hj hdj hSj) (ad.same s.flt) ad.sub
                have hL' : (listed.setIfInBounds i true).getD j false = true := hL
                rwa [getD_set_ne false (fun h => ek h.symm)] at hL'
            · have hp' : listed.getD (n + 1) false = true := by rwa [getD_set_ne false (by omega)] at hp
              rw [getD_put (by rw [s1.size]; exact a3), if_neg (hpA i d hin hbind)]
              exact Sp.mono _ _ _ _ _ (hpd hp') (ad.same s.flt) ad.sub
          have hres := hstep hgo
          unfold wpOp
          have ho : l.toArray[i]? = some o := by simpa using g2'
          rw [ho]
          exact hres
        · subst hin
          rw [hop] at g2'; obtain rfl := Option.some.inj g2'
          have hstep := hok a w F s (wpAny P .any l.toArray Q fuel (listed.setIfInBounds (n + 1) true)) Q
          have hgo : ∀ v w' F', Adv w F w' F' → Sp.h w' F' v → wpAny P .any l.toArray Q fuel (listed.setIfInBounds (n + 1) true) (a.put op.dst v) w' := by
            intro v w' F' ad hv
            rw [hdp]
            have s1 := s.adv ad
            refine ih _ _ w' F' hcnt' (by simp [hsz]) (fun j hj hj2 hjl => ?_) hc' (s1.putOut hdn v hpG) ?_ (fun _ => ?_)
            · rw [getD_set_ne true (fun h => hj2 h.symm)]; exact htail j hj hj2 hjl
            · intro j oj dj Sj hL hj hdj hSj
              have hjn : j < n := by
                rcases Nat.lt_or_ge j n with h' | h'
                · exact h'
                · rw [List.getElem?_eq_none (by omega)] at hSj; cases hSj
              rw [getD_put (by rw [s1.size]; exact hdn), if_neg (fun e => hpA j dj hjn (by rw [hj]; exact hdj) e.symm)]
              refine Sj.mono _ _ _ _ _ (hdone j oj dj Sj ?_ hj hdj hSj) (ad.same s.flt) ad.sub
              have hL' : (listed.setIfInBounds (n + 1) true).getD j false = true := hL
              rwa [getD_set_ne false (by omega)] at hL'
            · rw [getD_put (by rw [s1.size]; exact hdn), if_pos rfl]; exact hv
          have hres := hstep hgo
          unfold wpOp
          have ho : l.toArray[n + 1]? = some op := by simpa using hop
          rw [ho]
          exact hres
        · exact absurd hin.2 hall
/-- the readings done, an effect that stands behind them, one more reading beside it -/
theorem DrG.finE {id n dp : Nat} {l : List Oper} {Θ : Ctx} {oe op : Oper} {Sp : VP} (hm : P.follows .mixedOrders = true) (hap : apartB l n Γ = true) (htl : tailB l (n + 2) = true) (he : behindAll l n = true) (hed : edgesTo l n = true)
    (hoe : l[n]? = some oe) (hop : l[n + 1]? = some op) (hdp : op.dst = some dp) (hdn : Nat.blt dp E.n = true) (hpG : (Γ.all fun p => !Nat.beq p.1 dp) = true) (hpA : ((List.range n).all fun j => match (l[j]?).bind (·.dst) with | none => true | some e => !Nat.beq e dp) = true)
    (hok : OKG E P l.toArray Γ M op Sp)
    (k1 : Ops E P l.toArray Q (l.drop n) (Θ ++ Γ) M) (k2 : Ops E P l.toArray Q (oe :: l.drop (n + 2)) ((dp, Sp) :: (Θ ++ Γ)) M) : DrG E P id l Γ M Q n Θ := by
  intro Ss hD hΘ
  -- what the slots hold, as it stands in the list
  have hsame : ∀ t S, look (Θ ++ Γ) t = some S → ∃ S', look (dctx (l.take n) Ss ++ Γ) t = some S' ∧ S' = S := by
    have hfin := fun (P' : Ctx → Prop) => True
    intro t S ht
    rw [look_append] at ht
    rw [look_append]
    cases hl : look Θ t with
    | none =>
      rw [hl] at ht
      have ht' : look Γ t = some S := by simpa using ht
      have hno : look (dctx (l.take n) Ss) t = none := by
        cases hd : look (dctx (l.take n) Ss) t with
        | none => rfl
        | some S' =>
          obtain ⟨j, o, b1, b2, b3⟩ := look_dctx _ _ _ _ hd
          have hj : j < n := by
            rcases Nat.lt_or_ge j n with h' | h'
            · exact h'
            · rw [List.getElem?_eq_none (by simp; omega)] at b1; cases b1
          rw [List.getElem?_take_of_lt hj] at b1
          have h1 := List.all_eq_true.1 hap j (by simpa using hj)
          rw [b1] at h1
          simp only [Option.bind_some, b2, Bool.and_eq_true] at h1
          exact absurd rfl (look_none h1.1 t S ht')
      exact ⟨S, by rw [hno]; simpa using ht', rfl⟩
    | some S' =>
      rw [hl] at ht
      obtain rfl : S' = S := by simpa using ht
      obtain ⟨j, o, b0, b1, b2, b3⟩ := hΘ t S' hl
      have hex : ∀ (l' : List Oper) (Ss' : List VP) (j : Nat), (l'[j]?).bind (·.dst) = some t → Ss'[j]? = some S' → (∀ j', j' ≠ j → (l'[j']?).bind (·.dst) ≠ some t) → look (dctx l' Ss') t = some S' := by
        intro l'
        induction l' with
        | nil => intro Ss' j h; simp at h
        | cons o' l' ih =>
          intro Ss' j h1 h2 h3
          cases Ss' with
          | nil => simp at h2
          | cons T Ss' =>
            cases j with
            | zero =>
              simp at h1 h2
              subst h2
              simp [dctx, h1, look]
            | succ j =>
              have hrec := ih Ss' j (by simpa using h1) (by simpa using h2) (fun j' hj' => by simpa using h3 (j' + 1) (by omega))
              have h0 := h3 0 (by omega)
              simp at h0
              simp only [dctx]
              cases hd : o'.dst with
              | none => exact hrec
              | some d' =>
                simp only [look]
                have hne : Nat.beq d' t = false := by
                  cases hb : Nat.beq d' t with
                  | false => rfl
                  | true => exact absurd (by rw [hd, Nat.eq_of_beq_eq_true hb]) h0
                rw [hne]; exact hrec
      have hlk := hex (l.take n) Ss j (by rw [List.getElem?_take_of_lt b0, b1]; exact b2) b3 (fun j' hj' he' => by
        have hj'n : j' < n := by
          rcases Nat.lt_or_ge j' n with h' | h'
          · exact h'
          · rw [List.getElem?_eq_none (by simp; omega)] at he'; simp at he'
        rw [List.getElem?_take_of_lt hj'n] at he'
        have h1 := List.all_eq_true.1 hap j (by simpa using b0)
        rw [b1] at h1
        simp only [Option.bind_some, b2, Bool.and_eq_true] at h1
        have h2 := List.all_eq_true.1 h1.2 j' (by simpa using hj'n)
        rw [he'] at h2
        simp only [Bool.or_eq_true, Bool.not_eq_true'] at h2
        rcases h2 with h2 | h2
        · exact hj' (Nat.eq_of_beq_eq_true h2).symm
        · exact Nat.ne_of_beq_eq_false h2 rfl)
      exact ⟨S', by rw [hlk]; rfl, rfl⟩
  intro a w F s
  refine wp_region_any hm ?_
  have s1 := s.adv (Adv.drew w F)
  have hpA' : ∀ j e, j < n → (l[j]?).bind (·.dst) = some e → e ≠ dp := by
    intro j e hj hje
    have := List.all_eq_true.1 hpA j (by simpa using hj)
    rw [hje] at this
    exact Nat.ne_of_beq_eq_false (by simpa using this)
  refine phaseE hD hap htl he hed hoe hop hdp (by simpa [Nat.blt_eq] using hdn) (look_none hpG) hpA' hok
    (fun a w F s => k1 a w F (s.wider fun t S ht => by obtain ⟨S', h, rfl⟩ := hsame t S ht; exact s.slots t _ h))
    (fun a w F s => k2 a w F (s.wider fun t S ht => by
      simp only [look] at ht
      cases hb : Nat.beq dp t with
      | true =>
        rw [hb] at ht
        exact s.slots t S (by simp only [look]; rw [hb]; exact ht)
      | false =>
        rw [hb] at ht
        obtain ⟨S', h, rfl⟩ := hsame t S ht
        exact s.slots t _ (by simp only [look]; rw [hb]; exact h))) _ _ a _ F ?_ (by simp) (fun j hj hj2 hjl => ?_) ?_ s1 ?_ ?_
  · simp
    exact Nat.le_trans List.countP_le_length (by simp)
  · have : j < l.length := hjl
    simp [this]
  · intro i o hi hL
    simp [Array.getD_eq_getD_getElem?, Array.getElem?_replicate] at hL
    split at hL <;> simp at hL
  · intro j o d S hL
    simp [Array.getD_eq_getD_getElem?, Array.getElem?_replicate] at hL
    split at hL <;> simp at hL
  · intro hL
    simp [Array.getD_eq_getD_getElem?, Array.getElem?_replicate] at hL
    split at hL <;> simp at hL
end
end Go.En
/- Matrices of whole numbers in the program. -/
namespace Go.Mz
open Go.Pz Go.Nt Go.En
/-- the first numbers of a matrix, place by place -/
def tab (N C : Nat) (g : Nat → Nat → Int) : List Int := (List.range N).map fun j => g (j / C) (j % C)
theorem tab_len (N C : Nat) (g : Nat → Nat → Int) : (tab N C g).length = N := by unfold tab; rw [List.length_map, List.length_range]
theorem divmod {C i k : Nat} (h : k < C) : (i * C + k) / C = i ∧ (i * C + k) % C = k := by
  have hC : 0 < C := by omega
  constructor
  · rw [Nat.mul_comm, Nat.mul_add_div hC, Nat.div_eq_of_lt h, Nat.add_zero]
  · rw [Nat.mul_comm, Nat.mul_add_mod, Nat.mod_eq_of_lt h]
theorem cf_tab' {N C i k : Nat} (g : Nat → Nat → Int) (hk : k < C) (hN : i * C + k < N) : cf (tab N C g) (i * C + k) = g i k := by
  unfold tab
  rw [cf_tab, if_pos hN, (divmod hk).1, (divmod hk).2]
theorem tab_succ {C i k : Nat} (g : Nat → Nat → Int) (hk : k < C) : tab (i * C + k) C g ++ [g i k] = tab (i * C + (k + 1)) C g := by
  unfold tab
  rw [← Nat.add_assoc, List.range_succ, List.map_append, List.map_singleton, (divmod hk).1, (divmod hk).2]
theorem tab_next {C i : Nat} (g : Nat → Nat → Int) : tab (i * C + C) C g = tab ((i + 1) * C + 0) C g := by rw [Nat.add_zero, Nat.succ_mul]
theorem tab_congr {N C : Nat} {g h : Nat → Nat → Int} (e : ∀ i k, i * C + k < N → k < C → g i k = h i k) (hC : 0 < C ∨ N = 0) : tab N C g = tab N C h := by
  unfold tab
  refine List.map_congr_left fun j hj => ?_
  have hjN : j < N := List.mem_range.1 hj
  rcases hC with hC | hC
  · exact e _ _ (by rw [Nat.mul_comm, Nat.div_add_mod]; exact hjN) (Nat.mod_lt _ hC)
  · omega
theorem place_lt {R C i k : Nat} (hi : i < R) (hk : k < C) : i * C + k < R * C := by
  have : (i + 1) * C ≤ R * C := Nat.mul_le_mul_right C hi
  rw [Nat.succ_mul] at this; omega
theorem side_le {R C : Nat} (hR : R ≤ 64) (hC : C ≤ 64) : R * C ≤ 4096 := Nat.le_trans (Nat.mul_le_mul hR hC) (by decide)
theorem Bd_tab {N C K : Nat} {g : Nat → Nat → Int} (h : ∀ i k, (List.length (words (g i k).natAbs)) ≤ K) : Bd (tab N C g) K := fun i => by
  unfold Go.Mz.tab
  rw [cf_tab]
  split
  · exact h _ _
  · rw [Int.natAbs_zero, words_zero]; exact Nat.zero_le _
theorem Bd_tab' {N C K : Nat} {g : Nat → Nat → Int} (h : ∀ i k, i * C + k < N → k < C → (List.length (words (g i k).natAbs)) ≤ K) (hC : 0 < C ∨ N = 0) : Bd (tab N C g) K := fun i => by
  unfold Go.Mz.tab
  rw [cf_tab]
  split
  · rename_i hi
    rcases hC with hC | hC
    · exact h _ _ (by rw [Nat.mul_comm, Nat.div_add_mod]; exact hi) (Nat.mod_lt _ hC)
    · omega
  · rw [Int.natAbs_zero, words_zero]; exact Nat.zero_le _
/-- sides, and the number of numbers -/
def formB (r c : Int) (n : Nat) : Bool := (decide (0 ≤ r) && decide (r ≤ 64)) && (decide (0 ≤ c) && decide (c ≤ 64)) && decide ((n : Int) = r * c)
theorem formB_iff {r c : Int} {n : Nat} : formB r c n = true ↔ ∃ R C : Nat, r = R ∧ c = C ∧ R ≤ 64 ∧ C ≤ 64 ∧ n = R * C := by
  unfold formB
  simp only [Bool.and_eq_true, decide_eq_true_eq]
  constructor
  · rintro ⟨⟨⟨h1, h2⟩, h3, h4⟩, h5⟩
    refine ⟨r.toNat, c.toNat, by omega, by omega, by omega, by omega, ?_⟩
    have : (n : Int) = (r.toNat * c.toNat : Nat) := by rw [h5, Int.natCast_mul]; congr 1 <;> omega
    omega
  · rintro ⟨R, C, rfl, rfl, h1, h2, rfl⟩
    exact ⟨⟨⟨by omega, by omega⟩, by omega, by omega⟩, by rw [Int.natCast_mul]⟩
theorem formB_true {R C n : Nat} (h1 : R ≤ 64) (h2 : C ≤ 64) (h : n = R * C) : formB (R : Int) (C : Int) n = true := formB_iff.2 ⟨R, C, rfl, rfl, h1, h2, h⟩
theorem mul_bnd {r c : Int} (h : (0 ≤ r ∧ r ≤ 64) ∧ (0 ≤ c ∧ c ≤ 64)) : 0 ≤ r * c ∧ r * c ≤ 4096 := by
  refine ⟨Int.mul_nonneg h.1.1 h.2.1, ?_⟩
  have h1 : r * c ≤ 64 * c := Int.mul_le_mul_of_nonneg_right h.1.2 h.2.1
  omega
theorem cast_place {i C k : Nat} : ((i : Int) * (C : Int) + (k : Int)) = ((i * C + k : Nat) : Int) := by rw [Int.natCast_add, Int.natCast_mul]
theorem place_int {i C k : Nat} {x y z : Int} (h1 : x = i) (h2 : y = C) (h3 : z = k) : x * y + z = ((i * C + k : Nat) : Int) := by subst h1; subst h2; subst h3; exact cast_place
/-- sums of products -/
def dotS (f g : Nat → Int) : Nat → Int
  | 0 => 0
  | n + 1 => dotS f g n + f n * g n
theorem dotS_congr {f f' g g' : Nat → Int} : ∀ n, (∀ i, i < n → f i = f' i) → (∀ i, i < n → g i = g' i) → dotS f g n = dotS f' g' n
  | 0, _, _ => rfl
  | n + 1, h, k => by
    show dotS f g n + f n * g n = dotS f' g' n + f' n * g' n
    rw [dotS_congr n (fun i hi => h i (by omega)) (fun i hi => k i (by omega)), h n (by omega), k n (by omega)]
theorem dotS_nw {f g : Nat → Int} {K L : Nat} (h : ∀ i, (List.length (words (f i).natAbs)) ≤ K) (k : ∀ i, (List.length (words (g i).natAbs)) ≤ L) : ∀ n, (List.length (words (dotS f g n).natAbs)) ≤ K + L + n
  | 0 => by show (List.length (words (Int.natAbs 0))) ≤ _; rw [Int.natAbs_zero, words_zero]; exact Nat.zero_le _
  | n + 1 => by
    have h1 := dotS_nw h k n
    have h2 := nz_mul (f n) (g n)
    have h3 := h n
    have h4 := k n
    have h5 := nz_add (dotS f g n) (f n * g n)
    show (List.length (words (dotS f g n + f n * g n).natAbs)) ≤ _
    omega
end Go.Mz
namespace Go.En
open Go.Nt Go.Pz Go.Mz
/-- places of a matrix -/
abbrev PI (R C : Nat) : Type := { p : Nat × Nat // p.1 < R ∧ p.2 < C }
abbrev isAt (P : Program) (R C : Nat) (f : Nat → Nat → Bool × List Nat) : VP := isFun (ι := PI R C) P (fun p => [isI (p.1.1 : Int), isI (p.1.2 : Int)]) (fun p => Flat (zc (f p.1.1 p.1.2)))
abbrev isM (r c : Int) (xs : List (Bool × List Nat)) : VP := Flat [isI r, isI c, SlK 2 zc xs]
abbrev isMz (R C : Nat) (L : List Int) : VP := Flat [isI (R : Int), isI (C : Int), isP L]
abbrev ptM (r c : Int) (xs : List (Bool × List Nat)) : VP := PtrL [isI r, isI c, SlK 2 zc xs]
/-- a matrix of none -/
abbrev isM0 : VP := Flat [isI 0, isI 0, SlK 2 zc ([] : List (Bool × List Nat))]
theorem isMz_eq {R C : Nat} {L L' : List Int} (h : L = L') : isMz R C L = isMz R C L' := h ▸ rfl
theorem grF_eq {α : Type} {fk : α → List VP} {g : Gr α} {ys ys' : List α} {n : Nat} {b : Nat} {A B : VP} {r : Mem} (hn : n = ys'.length) (h : ys = ys') : (grMK fk g ys :: (some b, cellM [A, B, isGr g n]) :: r : Mem) = grMK fk g ys' :: (some b, cellM [A, B, isGr g ys'.length]) :: r := by subst h; subst hn; rfl
theorem zvz (f : Nat → Nat → Int) : (fun i k => zv (nz (f i k)).1 (nz (f i k)).2) = f := by funext i k; exact zv_nz _
end Go.En
/- Contracts: matrices of whole numbers. -/
namespace Go.Proofs.Ytfoclelageohiaa
open Go.En Go.RowKit
set_option linter.unusedVariables false
set_option maxRecDepth 10000
open Go.Nt
open Go.Pz
open Go.Mz
set_option maxHeartbeats 4000000 in
theorem zmat_side {n : Int} : Ctr Try.prog 121 [isI n] (isB (decide (0 ≤ n) && decide (n ≤ 64))) := by
  refine Ctr.intro Try.func121 rfl (by kernel_rfl) Try.ntmps121 rfl fun w0 F0 => ?_
  refine Tri.cv (Cv.wk (.cons (t := 0) (Has.t rfl) .nil)) ?_
  refine Tri.fact (Has.rngI (Has.t (t := 0) rfl)) fun lt0 => ?_
  refine Tri.seq fun K1 hK1 => ?_
  refine Tri.region ?_
  refine st (OK1.as (Has.cB false)) rfl ?_
  refine nl ?_
  refine At.thn (hK1 _ _ ?_); clear hK1
  refine Tri.seq fun K2 hK2 => ?_
  refine Tri.region ?_
  refine st (OK1.mv (Has.t rfl)) rfl ?_
  refine st (OK1.geI (Has.t rfl) (Has.cI 0 rfl)) rfl ?_
  refine st (OK1.mv (Has.t rfl)) rfl ?_
  refine stT rfl rfl (fun hg => have hg' := BP.t hg; OK1.mv (Has.t rfl)) rfl ?_
  refine stT rfl rfl (fun hg => have hg' := BP.t hg; OK1.leI (Has.g rfl hg) (Has.cI 64 rfl)) rfl ?_
  refine st (OK1.pickAnd (Has.t rfl) (fun h => Has.g rfl h)) rfl ?_
  refine st (OK1.as (Has.t rfl)) rfl ?_
  refine nl ?_
  refine At.thn (hK2 _ _ ?_); clear hK2
  refine Tri.cv (Cv.wk (.cons (t := 2) (Has.t rfl) .nil)) ?_
  refine Tri.ret ?_
  refine rt1 (.inl rfl) Try.results121 rfl (.tmp (Has.t' rfl ?_) .nil)
  all_goals (rfl)
set_option maxHeartbeats 4000000 in
theorem zmat_Formed {r c : Int} {xs : List (Bool × List Nat)} : Ctr Try.prog 97 [isM r c xs] (isB (formB r c xs.length)) := by
  refine Ctr.intro Try.func97 rfl (by kernel_rfl) Try.ntmps97 rfl fun w0 F0 => ?_
  refine Tri.cv (Cv.wk (.cons (t := 0) (Has.t rfl) .nil)) ?_
  refine Tri.seq fun K1 hK1 => ?_
  refine Tri.region ?_
  refine Ops.box (Has.t rfl) rfl fun b1 => ?_
  refine st (OK1.as (Has.cB false)) rfl ?_
  refine nl ?_
  refine At.thn (hK1 _ _ ?_); clear hK1
  refine Tri.seq fun K2 hK2 => ?_
  refine Tri.region ?_
  refine st (OK1.fieldAddr (Has.t rfl) fld55_0 ty3) rfl ?_
  refine st (OK1.load1 (Has.t rfl) (i := 0) rfl ty3 rfl) rfl ?_
  refine st (OK1.call (zmat_side) (.cons (Has.t rfl) .nil)) rfl ?_
  refine st (OK1.mv (Has.t rfl)) rfl ?_
  refine stT rfl rfl (fun hg => have hg' := BP.t hg; OK1.fieldAddr (Has.t rfl) fld55_1 ty3) rfl ?_
  refine stT rfl rfl (fun hg => have hg' := BP.t hg; OK1.load1 (Has.g rfl hg) (i := 0) rfl ty3 rfl) rfl ?_
  refine stT rfl rfl (fun hg => have hg' := BP.t hg; OK1.call (zmat_side) (.cons (Has.g rfl hg) .nil)) rfl ?_
  refine st (OK1.pickAnd (Has.t rfl) (fun h => Has.g rfl h)) rfl ?_
  refine st (OK1.mv (Has.t rfl)) rfl ?_
  refine stT rfl rfl (fun hg => have hg' := BP.t hg; OK1.fieldAddr (Has.t rfl) fld55_2 ty53) rfl ?_
  refine stT rfl rfl (fun hg => have hg' := BP.t hg; OK1.load1 (Has.g rfl hg) (i := 0) rfl ty53 rfl) rfl ?_
  refine stT rfl rfl (fun hg => have hg' := BP.t hg; OK1.len sl53 (Has.g rfl hg)) rfl ?_
  refine stT rfl rfl (fun hg => have hg' := BP.t hg; OK1.fieldAddr (Has.t rfl) fld55_0 ty3) rfl ?_
  refine stT rfl rfl (fun hg => have hg' := BP.t hg; OK1.load1 (Has.g rfl hg) (i := 0) rfl ty3 rfl) rfl ?_
  refine stT rfl rfl (fun hg => have hg' := BP.t hg; OK1.fieldAddr (Has.t rfl) fld55_1 ty3) rfl ?_
  refine stT rfl rfl (fun hg => have hg' := BP.t hg; OK1.load1 (Has.g rfl hg) (i := 0) rfl ty3 rfl) rfl ?_
  refine stT rfl rfl (fun hg => have hg' := BP.t hg; OK1.mulI (Has.g rfl hg) (Has.g rfl hg) (by have := mul_bnd ⟨hg'.1, hg'.2⟩; omega) (by have := mul_bnd ⟨hg'.1, hg'.2⟩; omega)) rfl ?_
  refine stT rfl rfl (fun hg => have hg' := BP.t hg; OK1.eqI (Has.g rfl hg) (Has.g rfl hg)) rfl ?_
  refine st (OK1.pickAnd (Has.t rfl) (fun h => Has.g rfl h)) rfl ?_
  refine st (OK1.as (Has.t rfl)) rfl ?_
  refine nl ?_
  refine At.thn (hK2 _ _ ?_); clear hK2
  refine Tri.cv (Cv.wk (.cons (t := 2) (Has.t rfl) .nil)) ?_
  refine Tri.ret ?_
  refine rt1 (.inl rfl) Try.results97 rfl (.tmp (Has.t' rfl ?_) .nil)
  all_goals (rfl)
set_option maxHeartbeats 4000000 in
theorem zmat_get {r : Int} {C i k : Nat} {xs : List (Bool × List Nat)} (hx : xs.length ≤ 4096) (hl : i * C + k < xs.length) : Ctr Try.prog 100 [isM r (C : Int) xs, isI (i : Int), isI (k : Int)] (Flat (zc (xs.getD (i * C + k) (false, [])))) := by
  refine Ctr.intro Try.func100 rfl (by kernel_rfl) Try.ntmps100 rfl fun w0 F0 => ?_
  refine Tri.cv (Cv.wk (.cons (t := 0) (Has.t rfl) (.cons (t := 1) (Has.t rfl) (.cons (t := 2) (Has.t rfl) .nil)))) ?_
  refine Tri.fact (Has.rngI (Has.t (t := 1) rfl)) fun lt1 => ?_
  refine Tri.fact (Has.rngI (Has.t (t := 2) rfl)) fun lt2 => ?_
  have hcp : ((i : Int) * (C : Int)) = ((i * C : Nat) : Int) := (Int.natCast_mul i C).symm
  refine Tri.seq fun K1 hK1 => ?_
  refine Tri.region ?_
  refine Ops.box (Has.t rfl) rfl fun b1 => ?_
  refine Ops.alloc [isB false, SlM isU []] zero59 (fun _ _ => ⟨rfl, nilM _ _, trivial⟩) rfl fun b2 => ?_
  refine nl ?_
  refine At.thn (hK1 _ _ ?_); clear hK1
  refine Tri.seq fun K2 hK2 => ?_
  refine Tri.region ?_
  refine st (OK1.fieldAddr (Has.t rfl) fld55_2 ty53) rfl ?_
  refine st (OK1.load1 (Has.t rfl) (i := 1) rfl ty53 rfl) rfl ?_
  refine st (OK1.mv (Has.t rfl)) rfl ?_
  refine st (OK1.fieldAddr (Has.t rfl) fld55_1 ty3) rfl ?_
  refine st (OK1.load1 (Has.t rfl) (i := 1) rfl ty3 rfl) rfl ?_
  refine st (OK1.eq (OK1.mulI (Has.t rfl) (Has.t rfl) (by first | omega | (rw [hcp]; omega)) (by first | omega | (rw [hcp]; omega))) ((show isI _ = isI ((i * C : Nat) : Int) from isI_eq hcp))) rfl ?_
  refine st (OK1.mv (Has.t rfl)) rfl ?_
  refine st (OK1.eq (OK1.addI (Has.t rfl) (Has.t rfl) (by first | omega | (rw [hcp]; omega)) (by first | omega | (rw [hcp]; omega))) ((show isI _ = isI ((i * C + k : Nat) : Int) from isI_eq (by omega)))) rfl ?_
  refine st (OK1.ixK sl53 ty59 (Has.t rfl) (Has.t rfl) zc_len ⟨by omega, by omega⟩ (getD_some (d := (false, [])) (by first | omega | (simp only [Int.toNat_natCast, List.length_set]; omega)))) rfl ?_
  refine st (OK1.loadP (Has.t rfl) ty59 rfl (Ss' := [_, _]) rfl) rfl ?_
  refine Ops.store (Has.t rfl) (Has.t rfl) (i := 0) rfl ty59 rfl rfl (Ss' := [_, _]) rfl (M' := [(some _, cellM [_, _]), _]) rfl ?_
  refine nl ?_
  refine At.thn (hK2 _ _ ?_); clear hK2
  refine Tri.cv (Cv.wk (.cons (t := 6) (Has.t rfl) .nil)) ?_
  refine Tri.ret ?_
  refine rt1 (.inl rfl) Try.results100 rfl (.cell rfl (i := 0) rfl ty59 rfl ?_ .nil)
  all_goals (rfl)
set_option maxHeartbeats 4000000 in
theorem zmat_has {r c i : Int} {xs : List (Bool × List Nat)} : Ctr Try.prog 136 [isM r c xs, isI i] (isB (decide (0 ≤ i) && decide (i < r))) := by
  refine Ctr.intro Try.func136 rfl (by kernel_rfl) Try.ntmps136 rfl fun w0 F0 => ?_
  refine Tri.cv (Cv.wk (.cons (t := 0) (Has.t rfl) (.cons (t := 1) (Has.t rfl) .nil))) ?_
  refine Tri.fact (Has.rngI (Has.t (t := 1) rfl)) fun lt1 => ?_
  refine Tri.seq fun K1 hK1 => ?_
  refine Tri.region ?_
  refine Ops.box (Has.t rfl) rfl fun b1 => ?_
  refine st (OK1.as (Has.cB false)) rfl ?_
  refine nl ?_
  refine At.thn (hK1 _ _ ?_); clear hK1
  refine Tri.seq fun K2 hK2 => ?_
  refine Tri.region ?_
  refine st (OK1.mv (Has.t rfl)) rfl ?_
  refine st (OK1.geI (Has.t rfl) (Has.cI 0 rfl)) rfl ?_
  refine st (OK1.mv (Has.t rfl)) rfl ?_
  refine stT rfl rfl (fun hg => have hg' := BP.t hg; OK1.mv (Has.t rfl)) rfl ?_
  refine stT rfl rfl (fun hg => have hg' := BP.t hg; OK1.fieldAddr (Has.t rfl) fld55_0 ty3) rfl ?_
  refine stT rfl rfl (fun hg => have hg' := BP.t hg; OK1.load1 (Has.g rfl hg) (i := 0) rfl ty3 rfl) rfl ?_
  refine stT rfl rfl (fun hg => have hg' := BP.t hg; OK1.ltI (Has.g rfl hg) (Has.g rfl hg)) rfl ?_
  refine st (OK1.pickAnd (Has.t rfl) (fun h => Has.g rfl h)) rfl ?_
  refine st (OK1.as (Has.t rfl)) rfl ?_
  refine nl ?_
  refine At.thn (hK2 _ _ ?_); clear hK2
  refine Tri.cv (Cv.wk (.cons (t := 4) (Has.t rfl) .nil)) ?_
  refine Tri.ret ?_
  refine rt1 (.inl rfl) Try.results136 rfl (.tmp (Has.t' rfl ?_) .nil)
  all_goals (rfl)
set_option maxHeartbeats 4000000 in
theorem zmat_made {R C : Nat} {f : Nat → Nat → Bool × List Nat} (hR : R ≤ 64) (hC : C ≤ 64) (hf : ∀ i k, i < R → k < C → (List.length (words (val (f i k).2))) ≤ 4294967296) : Ctr Try.prog 98 [isI (R : Int), isI (C : Int), isAt Try.prog R C f] (isMz R C (tab (R * C) C fun i k => zv (f i k).1 (f i k).2)) := by
  refine Ctr.intro Try.func98 rfl (by kernel_rfl) Try.ntmps98 rfl fun w0 F0 => ?_
  refine Tri.cv (Cv.wk (.cons (t := 0) (Has.t rfl) (.cons (t := 1) (Has.t rfl) (.cons (t := 2) (Has.t rfl) .nil)))) ?_
  refine Tri.fact (Has.rngI (Has.t (t := 0) rfl)) fun lt0 => ?_
  refine Tri.fact (Has.rngI (Has.t (t := 1) rfl)) fun lt1 => ?_
  have hRC := side_le hR hC
  obtain ⟨G, hG⟩ : ∃ G : Nat → Nat → Int, G = fun i k => zv (f i k).1 (f i k).2 := ⟨_, rfl⟩
  rw [← hG]
  refine Tri.seq fun K1 hK1 => ?_
  refine Tri.region ?_
  refine Ops.alloc [isI 0, isI 0, nilS] zero55 (fun _ _ => ⟨⟨rfl, by decide, by decide⟩, ⟨rfl, by decide, by decide⟩, rfl, trivial⟩) rfl fun b1 => ?_
  refine nl ?_
  refine At.thn (hK1 _ _ ?_); clear hK1
  refine Tri.seq fun K2 hK2 => ?_
  refine Tri.region ?_
  refine st (OK1.mv (Has.t rfl)) rfl ?_
  refine st (OK1.mv (Has.t rfl)) rfl ?_
  refine st (OK1.build [isI 0, isI 0, nilS] pl55 zero55 (fun _ _ => ⟨⟨rfl, by decide, by decide⟩, ⟨rfl, by decide, by decide⟩, rfl, trivial⟩) (.cons (Has.t rfl) rfl rfl rfl (.cons (Has.t rfl) rfl rfl rfl .nil)) (Z'' := [_, _, _]) rfl) rfl ?_
  refine Ops.alloc [isI 0, isI 0, nilS] zero55 (fun _ _ => ⟨⟨rfl, by decide, by decide⟩, ⟨rfl, by decide, by decide⟩, rfl, trivial⟩) rfl fun b2 => ?_
  refine Ops.store (Has.t rfl) (Has.t rfl) (i := 0) rfl ty55 rfl rfl (Ss' := [_, _, _]) rfl (M' := [(some _, cellM [_, _, _]), _]) rfl ?_
  refine nl ?_
  refine At.thn (hK2 _ _ ?_); clear hK2
  refine Tri.seq fun K3 hK3 => ?_
  refine Tri.seq fun K4 hK4 => ?_
  refine Tri.cv (Cv.growF (Bool × List Nat) (i := 0) (o := 2) rfl rfl rfl) ?_
  refine Tri.memEq (M' := [grMK zc Gr.nil [], _, _]) rfl ?_
  refine Tri.region ?_
  refine st (OK1.mv (Has.t rfl)) rfl ?_
  refine st (OK1.mv (Has.cI 0 rfl)) rfl ?_
  refine nl ?_
  refine At.thn (hK4 _ _ ?_); clear hK4
  refine Tri.block ?_
  refine Tri.loopF [1, 2, 6, 7, 14] (fun (z : { z : Nat × Gr (Bool × List Nat) // z.1 ≤ R }) => match z with | ⟨(i, g), hI⟩ => [(15, isI (i : Int))]) (fun M => fun (z : { z : Nat × Gr (Bool × List Nat) // z.1 ≤ R }) => match z with | ⟨(i, g), hI⟩ => [grMK zc g ((tab (i * C + 0) C G).map nz), (some b2, cellM [isI (R : Int), isI (C : Int), isGr g ((tab (i * C + 0) C G).map nz).length]), (some b1, cellM [isI 0, isI 0, nilS])]) (fun (z : { z : Nat × Gr (Bool × List Nat) // z.1 ≤ R }) => match z with | ⟨(i, g), hI⟩ => R - i) (⟨(0, Gr.nil), Nat.zero_le _⟩) (Cv.mem (.cons (t := 15) (Has.t' rfl ?_) (.cons (t := 1) (Has.t rfl) (.cons (t := 2) (Has.t rfl) (.cons (t := 6) (Has.t rfl) (.cons (t := 7) (Has.t rfl) (.cons (t := 14) (Has.t rfl) .nil)))))) ?_) ?_
  · rfl
  · exact grF_eq (n := 0) (ys := []) (by rw [List.length_map, tab_len, Nat.zero_mul]) (show [] = (tab (0 * C + 0) C G).map nz by rw [Nat.zero_mul]; rfl)
  rintro ⟨⟨i, g⟩, hI⟩ K5 hK5
  refine Tri.cv (Cv.wk (.cons (t := 15) (Has.t rfl) (.cons (t := 1) (Has.t rfl) (.cons (t := 2) (Has.t rfl) (.cons (t := 6) (Has.t rfl) (.cons (t := 7) (Has.t rfl) (.cons (t := 14) (Has.t rfl) .nil))))))) ?_
  refine Tri.memEq (M' := [grMK zc g ((tab (i * C + 0) C G).map nz), (some b2, cellM [isI (R : Int), isI (C : Int), isGr g ((tab (i * C + 0) C G).map nz).length]), (some b1, cellM [isI 0, isI 0, nilS])]) rfl ?_
  simp only [] at hI
  refine Tri.seq fun K6 hK6 => ?_
  refine Tri.region ?_
  refine st (OK1.ltI (Has.t rfl) (Has.t rfl)) rfl ?_
  refine nl ?_
  refine At.thn (hK6 _ _ ?_); clear hK6
  refine Tri.seq fun K7 hK7 => ?_
  refine Tri.cond (Has.t rfl) (fun hc1 => ?_) (fun hc1 => ?_)
  · have hc1 := BP.t hc1
    refine Tri.skip ?_
    refine At.thn (hK7 _ _ ?_); clear hK7
    refine Tri.seq fun K8 hK8 => ?_
    refine Tri.block ?_
    refine Tri.seq fun K9 hK9 => ?_
    refine Tri.region ?_
    refine st (OK1.mv (Has.t rfl)) rfl ?_
    refine st (OK1.as (Has.t rfl)) rfl ?_
    refine nl ?_
    refine At.thn (hK9 _ _ ?_); clear hK9
    refine Tri.seq fun K10 hK10 => ?_
    refine Tri.region ?_
    refine st (OK1.mv (Has.t rfl)) rfl ?_
    refine st (OK1.mv (Has.cI 0 rfl)) rfl ?_
    refine nl ?_
    refine At.thn (hK10 _ _ ?_); clear hK10
    refine Tri.block ?_
    refine Tri.loopF [1, 2, 6, 7, 14, 15, 16, 17, 8, 18] (fun (z : { z : Nat × Gr (Bool × List Nat) // z.1 ≤ C }) => match z with | ⟨(k, g2), hK⟩ => [(19, isI (k : Int))]) (fun M => fun (z : { z : Nat × Gr (Bool × List Nat) // z.1 ≤ C }) => match z with | ⟨(k, g2), hK⟩ => [grMK zc g2 ((tab (i * C + k) C G).map nz), (some b2, cellM [isI (R : Int), isI (C : Int), isGr g2 ((tab (i * C + k) C G).map nz).length]), (some b1, cellM [isI 0, isI 0, nilS])]) (fun (z : { z : Nat × Gr (Bool × List Nat) // z.1 ≤ C }) => match z with | ⟨(k, g2), hK⟩ => C - k) (⟨(0, g), Nat.zero_le _⟩) (Cv.mem (.cons (t := 19) (Has.t' rfl ?_) (.cons (t := 1) (Has.t rfl) (.cons (t := 2) (Has.t rfl) (.cons (t := 6) (Has.t rfl) (.cons (t := 7) (Has.t rfl) (.cons (t := 14) (Has.t rfl) (.cons (t := 15) (Has.t rfl) (.cons (t := 16) (Has.t rfl) (.cons (t := 17) (Has.t rfl) (.cons (t := 8) (Has.t rfl) (.cons (t := 18) (Has.t rfl) .nil))))))))))) ?_) ?_
    · rfl
    · rfl
    rintro ⟨⟨k, g2⟩, hK⟩ K11 hK11
    refine Tri.cv (Cv.wk (.cons (t := 19) (Has.t rfl) (.cons (t := 1) (Has.t rfl) (.cons (t := 2) (Has.t rfl) (.cons (t := 6) (Has.t rfl) (.cons (t := 7) (Has.t rfl) (.cons (t := 14) (Has.t rfl) (.cons (t := 15) (Has.t rfl) (.cons (t := 16) (Has.t rfl) (.cons (t := 17) (Has.t rfl) (.cons (t := 8) (Has.t rfl) (.cons (t := 18) (Has.t rfl) .nil)))))))))))) ?_
    refine Tri.memEq (M' := [grMK zc g2 ((tab (i * C + k) C G).map nz), (some b2, cellM [isI (R : Int), isI (C : Int), isGr g2 ((tab (i * C + k) C G).map nz).length]), (some b1, cellM [isI 0, isI 0, nilS])]) rfl ?_
    simp only [] at hK
    refine Tri.seq fun K12 hK12 => ?_
    refine Tri.region ?_
    refine st (OK1.ltI (Has.t rfl) (Has.t rfl)) rfl ?_
    refine nl ?_
    refine At.thn (hK12 _ _ ?_); clear hK12
    refine Tri.seq fun K13 hK13 => ?_
    refine Tri.cond (Has.t rfl) (fun hc2 => ?_) (fun hc2 => ?_)
    · have hc2 := BP.t hc2
      refine Tri.skip ?_
      refine At.thn (hK13 _ _ ?_); clear hK13
      refine Tri.seq fun K14 hK14 => ?_
      refine Tri.block ?_
      refine Tri.seq fun K15 hK15 => ?_
      refine Tri.region ?_
      refine st (OK1.mv (Has.t rfl)) rfl ?_
      refine st (OK1.as (Has.t rfl)) rfl ?_
      refine nl ?_
      refine At.thn (hK15 _ _ ?_); clear hK15
      refine Tri.seq fun K16 hK16 => ?_
      refine Tri.region ?_
      refine st (OK1.mv (Has.t rfl)) rfl ?_
      refine st (OK1.mv (Has.t rfl)) rfl ?_
      refine st (OK1.mv (Has.t rfl)) rfl ?_
      refine st (OK1.callV ⟨(i, k), by omega, by omega⟩ (Has.t rfl) (.cons (Has.t rfl) (.cons (Has.t rfl) .nil))) rfl ?_
      refine Ops.alloc [isB false, SlM isU []] zero59 (fun _ _ => ⟨rfl, nilM _ _, trivial⟩) rfl fun b3 => ?_
      refine Ops.store (Has.t rfl) (Has.t rfl) (i := 0) rfl ty59 rfl rfl (Ss' := [_, _]) rfl (M' := [(some _, cellM [_, _]), _, _, _]) rfl ?_
      refine nl ?_
      refine At.thn (hK16 _ _ ?_); clear hK16
      refine Tri.dr ?_
      refine DrG.st (i := 0) [] rfl rfl rfl (by kernel_rfl) (OKG.o rfl (OK1.fieldAddr (Has.t rfl) fld55_2 ty53)) ?_
      refine DrG.st (i := 1) [26] rfl rfl rfl (by kernel_rfl) (OKG.o rfl (OK1.load1 (Has.t rfl) (i := 2) rfl ty53 rfl)) ?_
      refine DrG.st (i := 2) [] rfl rfl rfl (by kernel_rfl) (OKG.o rfl (OK1.fieldAddr (Has.t rfl) fld59_1 ty57)) ?_
      refine DrG.st (i := 3) [28] rfl rfl rfl (by kernel_rfl) (OKG.o rfl (OK1.load1 (Has.t rfl) (i := 0) rfl ty57 rfl)) ?_
      refine DrG.st (i := 4) [] rfl rfl rfl (by kernel_rfl) (OKG.o rfl (OK1.fieldAddr (Has.t rfl) fld59_0 ty4)) ?_
      refine DrG.st (i := 5) [30] rfl rfl rfl (by kernel_rfl) (OKG.o rfl (OK1.load1 (Has.t rfl) (i := 0) rfl ty4 rfl)) ?_
      refine DrG.st (i := 6) [29, 31] rfl rfl rfl (by kernel_rfl) (OKG.o rfl (OK1.eq (OK1.call (zint_From (hf i k (by omega) (by omega))) (.cons (Has.t rfl) (.cons (Has.t rfl) .nil))) ((show isZ _ = Flat (zc (nz (G i k))) from isZ_eq (by rw [hG]))))) ?_
      refine DrG.st (i := 7) [32] rfl rfl rfl (by kernel_rfl) (OKG.o rfl (OK1.buildS [isB false, SlM isU []] sl53 ty59 zero59 (fun _ _ => ⟨rfl, nilM _ _, trivial⟩) rfl rfl (.cons (Has.t rfl) rfl rfl rfl .nil) rfl (S := SlK 2 zc [nz (G i k)]) rfl)) ?_
      refine DrG.fin (n := 8) mixed (by kernel_rfl) (by kernel_rfl) (by kernel_rfl) ?_
      refine Ops.cv (Cv.wk (.cons (t := 1) (Has.t rfl) (.cons (t := 2) (Has.t rfl) (.cons (t := 6) (Has.t rfl) (.cons (t := 7) (Has.t rfl) (.cons (t := 14) (Has.t rfl) (.cons (t := 15) (Has.t rfl) (.cons (t := 16) (Has.t rfl) (.cons (t := 17) (Has.t rfl) (.cons (t := 8) (Has.t rfl) (.cons (t := 18) (Has.t rfl) (.cons (t := 19) (Has.t rfl) (.cons (t := 20) (Has.t rfl) (.cons (t := 21) (Has.t rfl) (.cons (t := 9) (Has.t rfl) (.cons (t := 22) (Has.t rfl) (.cons (t := 23) (Has.t rfl) (.cons (t := 24) (Has.t rfl) (.cons (t := 25) (Has.t rfl) (.cons (t := 10) (Has.t rfl) (.cons (t := 26) (Has.t rfl) (.cons (t := 27) (Has.t rfl) (.cons (t := 28) (Has.t rfl) (.cons (t := 29) (Has.t rfl) (.cons (t := 30) (Has.t rfl) (.cons (t := 31) (Has.t rfl) (.cons (t := 32) (Has.t rfl) (.cons (t := 33) (Has.t rfl) .nil)))))))))))))))))))))))))))) ?_
      refine Ops.appendGK (fk := zc) (u := (false, [])) zc_len (by decide) (fun _ => inferInstance) sl53 ty59 zero59 (fun _ _ => ⟨rfl, nilM _ _, trivial⟩) by59 (Has.t rfl) (i := 1) rfl (Has.t rfl) (by have hpl := place_lt (show i < R by omega) (show k < C by omega); rw [List.length_map, tab_len]; show i * C + k + 1 ≤ _; omega) (by simp) rfl fun gr1 => ?_
      refine Ops.memEq (M' := [_, grMK _ _ _, _, _]) rfl ?_
      refine st (OK1.fieldAddr (Has.t rfl) fld55_2 ty53) rfl ?_
      refine Ops.store (Has.t rfl) (Has.t rfl) (i := 2) rfl ty53 rfl rfl (Ss' := [_, _, _]) rfl (M' := [_, _, (some _, cellM [_, _, _]), _]) rfl ?_
      refine nl ?_
      refine At.bln ?_
      refine At.thn (hK14 _ _ ?_); clear hK14
      refine Tri.region ?_
      refine st (OK1.addI (Has.t rfl) (Has.cI 1 rfl) (by first | omega | assumption) (by first | omega | assumption)) rfl ?_
      refine st (OK1.mv (Has.t rfl)) rfl ?_
      refine nl ?_
      refine At.thn ?_
      have hpl := place_lt (show i < R by omega) (show k < C by omega)
      refine hK11 (⟨(k + 1, gr1), by show k + 1 ≤ C; omega⟩) _ _ ?_ (Cv.trans (Cv.drop ((.cons _ (.cons_cons _ (.cons_cons _ (.cons_cons _ .slnil)))))) (Cv.mem (.cons (t := 19) (Has.t' rfl ?_) (.cons (t := 1) (Has.t rfl) (.cons (t := 2) (Has.t rfl) (.cons (t := 6) (Has.t rfl) (.cons (t := 7) (Has.t rfl) (.cons (t := 14) (Has.t rfl) (.cons (t := 15) (Has.t rfl) (.cons (t := 16) (Has.t rfl) (.cons (t := 17) (Has.t rfl) (.cons (t := 8) (Has.t rfl) (.cons (t := 18) (Has.t rfl) .nil))))))))))) ?_))
      · show C - (k + 1) < C - k; omega
      · exact isI_eq (by omega)
      · exact grF_eq (by rw [← tab_succ G (show k < C by omega), List.map_append, List.length_append]; rfl) (by rw [← tab_succ G (show k < C by omega), List.map_append]; rfl)
    · have hc2 := BP.f hc2
      refine Tri.exit ?_
      refine At.the ?_
      refine At.the ?_
      refine At.blh ?_
      refine At.bln ?_
      refine At.thn (hK8 _ _ ?_); clear hK8
      refine Tri.region ?_
      refine st (OK1.addI (Has.t rfl) (Has.cI 1 rfl) (by first | omega | assumption) (by first | omega | assumption)) rfl ?_
      refine st (OK1.mv (Has.t rfl)) rfl ?_
      refine nl ?_
      refine At.thn ?_
      have hkC : k = C := by omega
      subst hkC
      refine hK5 (⟨(i + 1, g2), by show i + 1 ≤ R; omega⟩) _ _ ?_ (Cv.mem (.cons (t := 15) (Has.t' rfl ?_) (.cons (t := 1) (Has.t rfl) (.cons (t := 2) (Has.t rfl) (.cons (t := 6) (Has.t rfl) (.cons (t := 7) (Has.t rfl) (.cons (t := 14) (Has.t rfl) .nil)))))) ?_)
      · show R - (i + 1) < R - i; omega
      · exact isI_eq (by omega)
      · exact grF_eq (by rw [tab_next]) (by rw [tab_next])
  · have hc1 := BP.f hc1
    refine Tri.exit ?_
    refine At.the ?_
    refine At.the ?_
    refine At.blh ?_
    refine At.thn (hK3 _ _ ?_); clear hK3
    refine Tri.cv (Cv.wk (.cons (t := 6) (Has.t rfl) (.cons (t := 7) (Has.t rfl) .nil))) ?_
    refine Tri.seq fun K17 hK17 => ?_
    refine Tri.cv (Cv.freezeF (k := 2) (i := 0) (j := 0) (o := 2) rfl rfl rfl rfl (gr_lenK zc_len) (gr_takeK zc_len) (Ss' := [_, _, SlK 2 zc ((tab (i * C + 0) C G).map nz)]) rfl) ?_
    refine Tri.memEq (M' := [(some _, cellM [_, _, SlK 2 zc ((tab (i * C + 0) C G).map nz)]), _]) rfl ?_
    refine Tri.cv (Cv.wk (.cons (t := 6) (Has.t rfl) (.cons (t := 7) (Has.t rfl) .nil))) ?_
    refine Tri.region ?_
    refine st (OK1.load (Has.t rfl) (i := 0) rfl ty55 rfl (Ss' := [_, _, _]) rfl) rfl ?_
    refine Ops.store (Has.t rfl) (Has.t rfl) (i := 1) rfl ty55 rfl rfl (Ss' := [_, _, _]) rfl (M' := [_, (some _, cellM [_, _, _])]) rfl ?_
    refine nl ?_
    refine At.thn (hK17 _ _ ?_); clear hK17
    refine Tri.ret ?_
    refine rt1 (.inl rfl) Try.results98 rfl (.cell rfl (i := 1) rfl ty55 rfl ?_ .nil)
    all_goals (rw [Nat.add_zero, show i = R by omega])
end Go.Proofs.Ytfoclelageohiaa
/- Contracts: products and transposes of matrices. -/
namespace Go.Proofs.Ytfoclelageohiaa
open Go.En Go.RowKit
set_option linter.unusedVariables false
set_option maxRecDepth 10000
open Go.Nt
open Go.Pz
open Go.Mz
set_option maxHeartbeats 4000000 in
theorem zmat_Of_1 {C i k : Nat} {l : List Int} (hx : l.length ≤ 4096) (hl : i * C + k < l.length) : Ctr Try.prog 122 [isI (i : Int), isI (k : Int), PtrL [SlM isI l], PtrL [isI (C : Int)]] (isZ (cf l (i * C + k))) := by
  refine Ctr.intro Try.func122 rfl (by kernel_rfl) Try.ntmps122 rfl fun w0 F0 => ?_
  refine Tri.cv (Cv.wk (.cons (t := 0) (Has.t rfl) (.cons (t := 1) (Has.t rfl) (.cons (t := 2) (Has.t rfl) (.cons (t := 3) (Has.t rfl) .nil))))) ?_
  refine Tri.fact (Has.rngI (Has.t (t := 0) rfl)) fun lt0 => ?_
  refine Tri.fact (Has.rngI (Has.t (t := 1) rfl)) fun lt1 => ?_
  have hcp : ((i : Int) * (C : Int)) = ((i * C : Nat) : Int) := (Int.natCast_mul i C).symm
  refine Tri.seq fun K1 hK1 => ?_
  refine Tri.region ?_
  refine Ops.alloc [isB false, SlM isU []] zero59 (fun _ _ => ⟨rfl, nilM _ _, trivial⟩) rfl fun b1 => ?_
  refine nl ?_
  refine At.thn (hK1 _ _ ?_); clear hK1
  refine Tri.seq fun K2 hK2 => ?_
  refine Tri.region ?_
  refine st (OK1.loadP1 (Has.t rfl) ty132) rfl ?_
  refine st (OK1.mv (Has.t rfl)) rfl ?_
  refine st (OK1.loadP1 (Has.t rfl) ty3) rfl ?_
  refine st (OK1.eq (OK1.mulI (Has.t rfl) (Has.t rfl) (by first | omega | (rw [hcp]; omega)) (by first | omega | (rw [hcp]; omega))) ((show isI _ = isI ((i * C : Nat) : Int) from isI_eq hcp))) rfl ?_
  refine st (OK1.mv (Has.t rfl)) rfl ?_
  refine st (OK1.eq (OK1.addI (Has.t rfl) (Has.t rfl) (by first | omega | (rw [hcp]; omega)) (by first | omega | (rw [hcp]; omega))) ((show isI _ = isI ((i * C + k : Nat) : Int) from isI_eq (by omega)))) rfl ?_
  refine st (OK1.ixP sl132 ty2 (Has.t rfl) (Has.t rfl) ⟨by omega, by omega⟩ (getD_some (d := 0) (by first | omega | (simp only [Int.toNat_natCast, List.length_set]; omega)))) rfl ?_
  refine st (OK1.loadP1 (Has.t rfl) ty2) rfl ?_
  refine st (OK1.call (zint_Of) (.cons (Has.t rfl) .nil)) rfl ?_
  refine Ops.store (Has.t rfl) (Has.t rfl) (i := 0) rfl ty59 rfl rfl (Ss' := [_, _]) rfl (M' := [(some _, cellM [_, _])]) rfl ?_
  refine nl ?_
  refine At.thn (hK2 _ _ ?_); clear hK2
  refine Tri.cv (Cv.wk (.cons (t := 6) (Has.t rfl) .nil)) ?_
  refine Tri.ret ?_
  refine rt1 (.inl rfl) Try.results122 rfl (.cell rfl (i := 0) rfl ty59 rfl ?_ .nil)
  all_goals (rfl)
set_option maxHeartbeats 4000000 in
theorem zmat_Of {R C : Nat} {l : List Int} (hR : R ≤ 64) (hC : C ≤ 64) (hl : l.length = R * C) (hb : ∀ y ∈ l, -9223372036854775808 ≤ y ∧ y < 9223372036854775808) : Ctr Try.prog 90 [isI (R : Int), isI (C : Int), SlM isI l] (isTup [isMz R C (tab (R * C) C fun i k => cf l (i * C + k)), isI 0]) := by
  refine Ctr.intro Try.func90 rfl (by kernel_rfl) Try.ntmps90 rfl fun w0 F0 => ?_
  refine Tri.cv (Cv.wk (.cons (t := 0) (Has.t rfl) (.cons (t := 1) (Has.t rfl) (.cons (t := 2) (Has.t rfl) .nil)))) ?_
  refine Tri.fact (Has.rngI (Has.t (t := 0) rfl)) fun lt0 => ?_
  refine Tri.fact (Has.rngI (Has.t (t := 1) rfl)) fun lt1 => ?_
  refine Tri.fact (Has.lenLt (Has.t (t := 2) rfl)) fun lt2 => ?_
  have hRC := side_le hR hC
  have hcp : ((R : Int) * (C : Int)) = ((R * C : Nat) : Int) := (Int.natCast_mul R C).symm
  refine Tri.seq fun K1 hK1 => ?_
  refine Tri.region ?_
  refine Ops.box (Has.t rfl) rfl fun b1 => ?_
  refine Ops.box (Has.t rfl) rfl fun b2 => ?_
  refine Ops.alloc [isI 0, isI 0, nilS] zero55 (fun _ _ => ⟨⟨rfl, by decide, by decide⟩, ⟨rfl, by decide, by decide⟩, rfl, trivial⟩) rfl fun b3 => ?_
  refine st (OK1.as (Has.cI 0 rfl)) rfl ?_
  refine nl ?_
  refine At.thn (hK1 _ _ ?_); clear hK1
  refine Tri.seq fun K2 hK2 => ?_
  refine Tri.block ?_
  refine Tri.seq fun K3 hK3 => ?_
  refine Tri.region ?_
  refine st (OK1.mv (Has.t rfl)) rfl ?_
  refine st (OK1.call (zmat_side) (.cons (Has.t rfl) .nil)) rfl ?_
  refine st (OK1.not (Has.t rfl)) rfl ?_
  refine st (OK1.mv (Has.t rfl)) rfl ?_
  refine stF rfl rfl (fun hg => have hg' := BP.t hg; OK1.load1 (Has.t rfl) (i := 2) rfl ty3 rfl) rfl ?_
  refine stF rfl rfl (fun hg => have hg' := BP.t hg; OK1.call (zmat_side) (.cons (Has.g rfl hg) .nil)) rfl ?_
  refine stF rfl rfl (fun hg => have hg' := BP.t hg; OK1.not (Has.g rfl hg)) rfl ?_
  refine st (OK1.pickOr (Has.t rfl) (fun h => Has.g rfl (ng h))) rfl ?_
  refine st (OK1.as (Has.t rfl)) rfl ?_
  refine nl ?_
  refine At.thn (hK3 _ _ ?_); clear hK3
  refine Tri.cv (Cv.wk (.cons (t := 0) (Has.t rfl) (.cons (t := 4) (Has.t rfl) (.cons (t := 5) (Has.t rfl) (.cons (t := 6) (Has.t rfl) (.cons (t := 7) (Has.t rfl) (.cons (t := 8) (Has.t rfl) .nil))))))) ?_
  refine Tri.cond (Has.t rfl) (fun hc1 => ?_) (fun hc1 => ?_)
  · have hc1 := BP.t hc1
    omega
  · have hc1 := BP.f hc1
    refine Tri.seq fun K4 hK4 => ?_
    refine Tri.region ?_
    refine st (OK1.load1 (Has.t rfl) (i := 1) rfl ty132 rfl) rfl ?_
    refine st (OK1.len sl132 (Has.t rfl)) rfl ?_
    refine st (OK1.mv (Has.t rfl)) rfl ?_
    refine st (OK1.load1 (Has.t rfl) (i := 2) rfl ty3 rfl) rfl ?_
    refine st (OK1.mulI (Has.t rfl) (Has.t rfl) (by rw [hcp]; omega) (by rw [hcp]; omega)) rfl ?_
    refine st (OK1.neI (Has.t rfl) (Has.t rfl)) rfl ?_
    refine st (OK1.as (Has.t rfl)) rfl ?_
    refine nl ?_
    refine At.thn (hK4 _ _ ?_); clear hK4
    refine Tri.cv (Cv.wk (.cons (t := 0) (Has.t rfl) (.cons (t := 4) (Has.t rfl) (.cons (t := 5) (Has.t rfl) (.cons (t := 6) (Has.t rfl) (.cons (t := 7) (Has.t rfl) (.cons (t := 18) (Has.t rfl) .nil))))))) ?_
    refine Tri.cond (Has.t rfl) (fun hc2 => ?_) (fun hc2 => ?_)
    · have hc2 := BP.t hc2
      rw [hcp] at hc2; omega
    · have hc2 := BP.f hc2
      refine Tri.skip ?_
      refine At.bln ?_
      refine At.thn (hK2 _ _ ?_); clear hK2
      refine Tri.seq fun K5 hK5 => ?_
      refine Tri.region ?_
      refine st (OK1.mv (Has.t rfl)) rfl ?_
      refine st (OK1.load1 (Has.t rfl) (i := 2) rfl ty3 rfl) rfl ?_
      refine Ops.cv (Cv.freezeBox (t := 5) (i := 1) rfl rfl rfl) ?_
      refine Ops.memEq (M' := [_, _]) rfl ?_
      refine Ops.cv (Cv.wk (.cons (t := 0) (Has.t rfl) (.cons (t := 4) (Has.t rfl) (.cons (t := 5) (Has.t rfl) (.cons (t := 6) (Has.t rfl) (.cons (t := 7) (Has.t rfl) (.cons (t := 18) (Has.t rfl) (.cons (t := 26) (Has.t rfl) (.cons (t := 27) (Has.t rfl) .nil))))))))) ?_
      refine Ops.cv (Cv.freezeBox (t := 4) (i := 1) rfl rfl rfl) ?_
      refine Ops.memEq (M' := [_]) rfl ?_
      refine Ops.cv (Cv.wk (.cons (t := 0) (Has.t rfl) (.cons (t := 4) (Has.t rfl) (.cons (t := 5) (Has.t rfl) (.cons (t := 6) (Has.t rfl) (.cons (t := 7) (Has.t rfl) (.cons (t := 18) (Has.t rfl) (.cons (t := 26) (Has.t rfl) (.cons (t := 27) (Has.t rfl) .nil))))))))) ?_
      refine st (OK1.makeFn (ι := PI R C) (As := fun p => [isI (p.1.1 : Int), isI (p.1.2 : Int)]) (R := fun p => Flat (zc (nz (cf l (p.1.1 * C + p.1.2))))) (fun p => zmat_Of_1 (by omega) (by rw [hl]; exact place_lt p.2.1 p.2.2)) .nil (.cons (Has.t rfl) (.cons (Has.t rfl) .nil))) rfl ?_
      refine st (OK1.call (zmat_made (f := fun i k => nz (cf l (i * C + k))) hR hC (fun i k _ _ => by rw [val_words]; exact Nat.le_trans (bd64 hb _) (by decide))) (.cons (Has.t rfl) (.cons (Has.t rfl) (.cons (Has.t rfl) .nil)))) rfl ?_
      refine Ops.store (Has.t rfl) (Has.t rfl) (i := 0) rfl ty55 rfl rfl (Ss' := [_, _, _]) rfl (M' := [(some _, cellM [_, _, _])]) rfl ?_
      refine st (OK1.as (Has.cI 0 rfl)) rfl ?_
      refine nl ?_
      refine At.thn (hK5 _ _ ?_); clear hK5
      refine Tri.cv (Cv.wk (.cons (t := 6) (Has.t rfl) (.cons (t := 7) (Has.t rfl) .nil))) ?_
      refine Tri.ret ?_
      refine rtN (.inl rfl) Try.results90 rfl rfl (.cell rfl (i := 0) rfl ty55 rfl ?_ (.tmp (Has.t' rfl ?_) .nil))
      · exact isMz_eq (by rw [zvz fun i k => cf l (i * C + k)])
      · rfl
set_option maxHeartbeats 4000000 in
theorem zmat_At {R C i k : Nat} {xs : List (Bool × List Nat)} {K : Nat} (hx : Bd (vals xs) K) (hK : K ≤ 4000000000) (hR : R ≤ 64) (hC : C ≤ 64) (hl : xs.length = R * C) (hi : i < R) (hk : k < C) : Ctr Try.prog 106 [isM (R : Int) (C : Int) xs, isI (i : Int), isI (k : Int)] (isZ (cf (vals xs) (i * C + k))) := by
  refine Ctr.intro Try.func106 rfl (by kernel_rfl) Try.ntmps106 rfl fun w0 F0 => ?_
  refine Tri.cv (Cv.wk (.cons (t := 0) (Has.t rfl) (.cons (t := 1) (Has.t rfl) (.cons (t := 2) (Has.t rfl) .nil)))) ?_
  refine Tri.fact (Has.rngI (Has.t (t := 1) rfl)) fun lt1 => ?_
  refine Tri.fact (Has.rngI (Has.t (t := 2) rfl)) fun lt2 => ?_
  have hRC := side_le hR hC
  have hpl := place_lt hi hk
  have hfo := formB_true hR hC hl
  have hxr := hx.raw (i * C + k)
  refine Tri.seq fun K1 hK1 => ?_
  refine Tri.region ?_
  refine Ops.box (Has.t rfl) rfl fun b1 => ?_
  refine Ops.alloc [isB false, SlM isU []] zero59 (fun _ _ => ⟨rfl, nilM _ _, trivial⟩) rfl fun b2 => ?_
  refine nl ?_
  refine At.thn (hK1 _ _ ?_); clear hK1
  refine Tri.seq fun K2 hK2 => ?_
  refine Tri.seq fun K3 hK3 => ?_
  refine Tri.region ?_
  refine st (OK1.load (Has.t rfl) (i := 1) rfl ty55 rfl (Ss' := [_, _, _]) rfl) rfl ?_
  refine st (OK1.eq (OK1.call (zmat_Formed) (.cons (Has.t rfl) .nil)) ((show isB _ = isB true from isB_eq hfo))) rfl ?_
  refine st (OK1.not (Has.t rfl)) rfl ?_
  refine st (OK1.mv (Has.t rfl)) rfl ?_
  refine stF rfl rfl (fun hg => have hg' := BP.t hg; OK1.load (Has.t rfl) (i := 1) rfl ty55 rfl (Ss' := [_, _, _]) rfl) rfl ?_
  refine stF rfl rfl (fun hg => have hg' := BP.t hg; OK1.mv (Has.t rfl)) rfl ?_
  refine stF rfl rfl (fun hg => have hg' := BP.t hg; OK1.call (zmat_has) (.cons (Has.g rfl hg) (.cons (Has.g rfl hg) .nil))) rfl ?_
  refine stF rfl rfl (fun hg => have hg' := BP.t hg; OK1.not (Has.g rfl hg)) rfl ?_
  refine st (OK1.pickOr (Has.t rfl) (fun h => Has.g rfl (ng h))) rfl ?_
  refine st (OK1.mv (Has.t rfl)) rfl ?_
  refine stF rfl rfl (fun hg => have hg' := BP.t hg; OK1.mv (Has.t rfl)) rfl ?_
  refine stF rfl rfl (fun hg => have hg' := BP.t hg; OK1.ltI (Has.g rfl hg) (Has.cI 0 rfl)) rfl ?_
  refine st (OK1.pickOr (Has.t rfl) (fun h => Has.g rfl (ng h))) rfl ?_
  refine st (OK1.mv (Has.t rfl)) rfl ?_
  refine stF rfl rfl (fun hg => have hg' := BP.t hg; OK1.mv (Has.t rfl)) rfl ?_
  refine stF rfl rfl (fun hg => have hg' := BP.t hg; OK1.fieldAddr (Has.t rfl) fld55_1 ty3) rfl ?_
  refine stF rfl rfl (fun hg => have hg' := BP.t hg; OK1.load1 (Has.g rfl hg) (i := 1) rfl ty3 rfl) rfl ?_
  refine stF rfl rfl (fun hg => have hg' := BP.t hg; OK1.geI (Has.g rfl hg) (Has.g rfl hg)) rfl ?_
  refine st (OK1.pickOr (Has.t rfl) (fun h => Has.g rfl (ng h))) rfl ?_
  refine nl ?_
  refine At.thn (hK3 _ _ ?_); clear hK3
  refine Tri.cv (Cv.wk (.cons (t := 1) (Has.t rfl) (.cons (t := 2) (Has.t rfl) (.cons (t := 3) (Has.t rfl) (.cons (t := 6) (Has.t rfl) (.cons (t := 26) (Has.t rfl) .nil)))))) ?_
  refine Tri.cond (Has.t rfl) (fun hc1 => ?_) (fun hc1 => ?_)
  · have hc1 := BP.t hc1
    simp at hc1; omega
  · have hc1 := BP.f hc1
    refine Tri.skip ?_
    refine At.thn (hK2 _ _ ?_); clear hK2
    refine Tri.seq fun K4 hK4 => ?_
    refine Tri.region ?_
    refine st (OK1.load (Has.t rfl) (i := 1) rfl ty55 rfl (Ss' := [_, _, _]) rfl) rfl ?_
    refine st (OK1.mv (Has.t rfl)) rfl ?_
    refine st (OK1.mv (Has.t rfl)) rfl ?_
    refine st (OK1.call (zmat_get (i := i) (k := k) (by omega) (by omega)) (.cons (Has.t rfl) (.cons (Has.t rfl) (.cons (Has.t rfl) .nil)))) rfl ?_
    refine Ops.alloc [isB false, SlM isU []] zero59 (fun _ _ => ⟨rfl, nilM _ _, trivial⟩) rfl fun b3 => ?_
    refine Ops.store (Has.t rfl) (Has.t rfl) (i := 0) rfl ty59 rfl rfl (Ss' := [_, _]) rfl (M' := [(some _, cellM [_, _]), _, _]) rfl ?_
    refine nl ?_
    refine At.thn (hK4 _ _ ?_); clear hK4
    refine Tri.cv (Cv.wk (.cons (t := 6) (Has.t rfl) (.cons (t := 7) (Has.t rfl) .nil))) ?_
    refine Tri.seq fun K5 hK5 => ?_
    refine Tri.region ?_
    refine st (OK1.fieldAddr (Has.t rfl) fld59_1 ty57) rfl ?_
    refine st (OK1.load1 (Has.t rfl) (i := 0) rfl ty57 rfl) rfl ?_
    refine st (OK1.fieldAddr (Has.t rfl) fld59_0 ty4) rfl ?_
    refine st (OK1.load1 (Has.t rfl) (i := 0) rfl ty4 rfl) rfl ?_
    refine st (OK1.call (zint_From (by first | omega | assumption)) (.cons (Has.t rfl) (.cons (Has.t rfl) .nil))) rfl ?_
    refine Ops.store (Has.t rfl) (Has.t rfl) (i := 1) rfl ty59 rfl rfl (Ss' := [_, _]) rfl (M' := [_, (some _, cellM [_, _]), _]) rfl ?_
    refine nl ?_
    refine At.thn (hK5 _ _ ?_); clear hK5
    refine Tri.cv (Cv.wk (.cons (t := 6) (Has.t rfl) .nil)) ?_
    refine Tri.ret ?_
    refine rt1 (.inl rfl) Try.results106 rfl (.cell rfl (i := 1) rfl ty59 rfl ?_ .nil)
    all_goals (exact isZ_eq (by rw [cf_vals]))
set_option maxHeartbeats 4000000 in
theorem zmat_Mul_1 {R C D i k K L : Nat} {xs ys : List (Bool × List Nat)} (hx : Bd (vals xs) K) (hy : Bd (vals ys) L) (hK : K + L ≤ 400000000) (hC : C ≤ 64) (hxl : xs.length = R * C) (hyl : ys.length = C * D) (hxm : xs.length ≤ 4096) (hym : ys.length ≤ 4096) (hi : i < R) (hk : k < D) : Ctr Try.prog 99 [isI (i : Int), isI (k : Int), ptM (R : Int) (C : Int) xs, ptM (C : Int) (D : Int) ys] (isZ (dotS (fun j => cf (vals xs) (i * C + j)) (fun j => cf (vals ys) (j * D + k)) C)) := by
  refine Ctr.intro Try.func99 rfl (by kernel_rfl) Try.ntmps99 rfl fun w0 F0 => ?_
  refine Tri.cv (Cv.wk (.cons (t := 0) (Has.t rfl) (.cons (t := 1) (Has.t rfl) (.cons (t := 2) (Has.t rfl) (.cons (t := 3) (Has.t rfl) .nil))))) ?_
  refine Tri.fact (Has.rngI (Has.t (t := 0) rfl)) fun lt0 => ?_
  refine Tri.fact (Has.rngI (Has.t (t := 1) rfl)) fun lt1 => ?_
  obtain ⟨f, hf⟩ : ∃ f : Nat → Int, f = fun j => cf (vals xs) (i * C + j) := ⟨_, rfl⟩
  obtain ⟨g, hg⟩ : ∃ g : Nat → Int, g = fun j => cf (vals ys) (j * D + k) := ⟨_, rfl⟩
  rw [← hf, ← hg]
  refine Tri.seq fun K1 hK1 => ?_
  refine Tri.region ?_
  refine Ops.alloc [isB false, SlM isU []] zero59 (fun _ _ => ⟨rfl, nilM _ _, trivial⟩) rfl fun b1 => ?_
  refine nl ?_
  refine At.thn (hK1 _ _ ?_); clear hK1
  refine Tri.seq fun K2 hK2 => ?_
  refine Tri.region ?_
  refine Ops.alloc [isB false, SlM isU []] zero59 (fun _ _ => ⟨rfl, nilM _ _, trivial⟩) rfl fun b2 => ?_
  refine nl ?_
  refine At.thn (hK2 _ _ ?_); clear hK2
  refine Tri.seq fun K3 hK3 => ?_
  refine Tri.seq fun K4 hK4 => ?_
  refine Tri.region ?_
  refine st (OK1.fieldAddrP (Has.t rfl) fld55_1 ty3 (Ss' := [_, _]) rfl) rfl ?_
  refine st (OK1.loadP1 (Has.t rfl) ty3) rfl ?_
  refine st (OK1.mv (Has.cI 0 rfl)) rfl ?_
  refine nl ?_
  refine At.thn (hK4 _ _ ?_); clear hK4
  refine Tri.block ?_
  refine Tri.loopF [0, 1, 2, 3, 6, 7, 10] (fun (z : { j : Nat // j ≤ C }) => match z with | ⟨j, hj⟩ => [(11, isI (j : Int))]) (fun M => fun (z : { j : Nat // j ≤ C }) => match z with | ⟨j, hj⟩ => [zM b2 (dotS f g j), (some b1, cellM [isB false, SlM isU []])]) (fun (z : { j : Nat // j ≤ C }) => match z with | ⟨j, hj⟩ => C - j) (⟨0, Nat.zero_le _⟩) (Cv.mem (.cons (t := 11) (Has.t' rfl ?_) (.cons (t := 0) (Has.t rfl) (.cons (t := 1) (Has.t rfl) (.cons (t := 2) (Has.t rfl) (.cons (t := 3) (Has.t rfl) (.cons (t := 6) (Has.t rfl) (.cons (t := 7) (Has.t rfl) (.cons (t := 10) (Has.t rfl) .nil)))))))) ?_) ?_
  · rfl
  · exact zM0
  rintro ⟨j, hj⟩ K5 hK5
  refine Tri.cv (Cv.wk (.cons (t := 11) (Has.t rfl) (.cons (t := 0) (Has.t rfl) (.cons (t := 1) (Has.t rfl) (.cons (t := 2) (Has.t rfl) (.cons (t := 3) (Has.t rfl) (.cons (t := 6) (Has.t rfl) (.cons (t := 7) (Has.t rfl) (.cons (t := 10) (Has.t rfl) .nil))))))))) ?_
  refine Tri.memEq (M' := [zM b2 (dotS f g j), (some b1, cellM [isB false, SlM isU []])]) rfl ?_
  have hds := dotS_nw (f := f) (g := g) (K := K) (L := L) (fun j => by rw [hf]; exact hx _) (fun j => by rw [hg]; exact hy _) j
  refine Tri.seq fun K6 hK6 => ?_
  refine Tri.region ?_
  refine st (OK1.ltI (Has.t rfl) (Has.t rfl)) rfl ?_
  refine nl ?_
  refine At.thn (hK6 _ _ ?_); clear hK6
  refine Tri.seq fun K7 hK7 => ?_
  refine Tri.cond (Has.t rfl) (fun hc1 => ?_) (fun hc1 => ?_)
  · have hc1 := BP.t hc1
    have hj2 : j < C := (by omega)
    have hp1 := place_lt hi hj2
    have hp2 := place_lt hj2 hk
    have hxr := hx.raw (i * C + j)
    have hyr := hy.raw (j * D + k)
    have hfj : f j = cf (vals xs) (i * C + j) := by rw [hf]
    have hgj : g j = cf (vals ys) (j * D + k) := by rw [hg]
    have hfk := hx (i * C + j)
    have hgk := hy (j * D + k)
    have hmm := nz_mul (f j) (g j)
    rw [← hfj] at hfk
    rw [← hgj] at hgk
    refine Tri.skip ?_
    refine At.thn (hK7 _ _ ?_); clear hK7
    refine Tri.seq fun K8 hK8 => ?_
    refine Tri.block ?_
    refine Tri.seq fun K9 hK9 => ?_
    refine Tri.region ?_
    refine st (OK1.mv (Has.t rfl)) rfl ?_
    refine st (OK1.as (Has.t rfl)) rfl ?_
    refine nl ?_
    refine At.thn (hK9 _ _ ?_); clear hK9
    refine Tri.dr ?_
    refine DrG.st (i := 0) [] rfl rfl rfl (by kernel_rfl) (OKG.o rfl (OK1.load (Has.t rfl) (i := 0) rfl ty59 rfl (Ss' := [_, _]) rfl)) ?_
    refine DrG.st (i := 1) [] rfl rfl rfl (by kernel_rfl) (OKG.o rfl (OK1.loadP (Has.t rfl) ty55 rfl (Ss' := [_, _, _]) rfl)) ?_
    refine DrG.st (i := 2) [] rfl rfl rfl (by kernel_rfl) (OKG.o rfl (OK1.mv (Has.t rfl))) ?_
    refine DrG.st (i := 3) [] rfl rfl rfl (by kernel_rfl) (OKG.o rfl (OK1.mv (Has.t rfl))) ?_
    refine DrG.st (i := 4) [15, 16, 17] rfl rfl rfl (by kernel_rfl) (OKG.o rfl (OK1.call (zmat_get (i := i) (k := j) hxm (by omega)) (.cons (Has.t rfl) (.cons (Has.t rfl) (.cons (Has.t rfl) .nil))))) ?_
    refine DrG.st (i := 5) [] rfl rfl rfl (by kernel_rfl) (OKG.o rfl (OK1.loadP (Has.t rfl) ty55 rfl (Ss' := [_, _, _]) rfl)) ?_
    refine DrG.st (i := 6) [] rfl rfl rfl (by kernel_rfl) (OKG.o rfl (OK1.mv (Has.t rfl))) ?_
    refine DrG.st (i := 7) [] rfl rfl rfl (by kernel_rfl) (OKG.o rfl (OK1.mv (Has.t rfl))) ?_
    refine DrG.st (i := 8) [19, 20, 21] rfl rfl rfl (by kernel_rfl) (OKG.o rfl (OK1.call (zmat_get (i := j) (k := k) hym (by omega)) (.cons (Has.t rfl) (.cons (Has.t rfl) (.cons (Has.t rfl) .nil))))) ?_
    refine DrG.st (i := 9) [18, 22] rfl rfl rfl (by kernel_rfl) (OKG.o rfl (OK1.eq (OK1.call (zint_Mul (by omega) (by omega)) (.cons (Has.t rfl) (.cons (Has.t rfl) .nil))) ((show isZ _ = isZ (f j * g j) from isZ_eq (by rw [hfj, hgj, cf_vals, cf_vals]))))) ?_
    refine DrG.fin (n := 10) mixed (by kernel_rfl) (by kernel_rfl) (by kernel_rfl) ?_
    refine Ops.cv (Cv.wk (.cons (t := 0) (Has.t rfl) (.cons (t := 1) (Has.t rfl) (.cons (t := 2) (Has.t rfl) (.cons (t := 3) (Has.t rfl) (.cons (t := 6) (Has.t rfl) (.cons (t := 7) (Has.t rfl) (.cons (t := 10) (Has.t rfl) (.cons (t := 11) (Has.t rfl) (.cons (t := 12) (Has.t rfl) (.cons (t := 13) (Has.t rfl) (.cons (t := 8) (Has.t rfl) (.cons (t := 14) (Has.t rfl) (.cons (t := 15) (Has.t rfl) (.cons (t := 16) (Has.t rfl) (.cons (t := 17) (Has.t rfl) (.cons (t := 18) (Has.t rfl) (.cons (t := 19) (Has.t rfl) (.cons (t := 20) (Has.t rfl) (.cons (t := 21) (Has.t rfl) (.cons (t := 22) (Has.t rfl) (.cons (t := 23) (Has.t rfl) .nil)))))))))))))))))))))) ?_
    refine st (OK1.eq (OK1.call (zint_Add (by rw [val_words]; omega) (by rw [val_words]; omega)) (.cons (Has.t rfl) (.cons (Has.t rfl) .nil))) ((show isZ _ = isZ (dotS f g j + f j * g j) from isZ_eq (by simp only [zv_nf])))) rfl ?_
    refine Ops.store (Has.t rfl) (Has.t rfl) (i := 0) rfl ty59 rfl rfl (Ss' := [_, _]) rfl (M' := [(some _, cellM [_, _]), _]) rfl ?_
    refine nl ?_
    refine At.bln ?_
    refine At.thn (hK8 _ _ ?_); clear hK8
    refine Tri.region ?_
    refine st (OK1.addI (Has.t rfl) (Has.cI 1 rfl) (by first | omega | assumption) (by first | omega | assumption)) rfl ?_
    refine st (OK1.mv (Has.t rfl)) rfl ?_
    refine nl ?_
    refine At.thn ?_
    refine hK5 (⟨j + 1, by omega⟩) _ _ ?_ (Cv.mem (.cons (t := 11) (Has.t' rfl ?_) (.cons (t := 0) (Has.t rfl) (.cons (t := 1) (Has.t rfl) (.cons (t := 2) (Has.t rfl) (.cons (t := 3) (Has.t rfl) (.cons (t := 6) (Has.t rfl) (.cons (t := 7) (Has.t rfl) (.cons (t := 10) (Has.t rfl) .nil)))))))) ?_)
    · show C - (j + 1) < C - j; omega
    · exact isI_eq (by omega)
    · rfl
  · have hc1 := BP.f hc1
    refine Tri.exit ?_
    refine At.the ?_
    refine At.the ?_
    refine At.blh ?_
    refine At.thn (hK3 _ _ ?_); clear hK3
    refine Tri.cv (Cv.wk (.cons (t := 6) (Has.t rfl) (.cons (t := 7) (Has.t rfl) .nil))) ?_
    refine Tri.seq fun K10 hK10 => ?_
    refine Tri.region ?_
    refine st (OK1.load (Has.t rfl) (i := 0) rfl ty59 rfl (Ss' := [_, _]) rfl) rfl ?_
    refine Ops.store (Has.t rfl) (Has.t rfl) (i := 1) rfl ty59 rfl rfl (Ss' := [_, _]) rfl (M' := [_, (some _, cellM [_, _])]) rfl ?_
    refine nl ?_
    refine At.thn (hK10 _ _ ?_); clear hK10
    refine Tri.ret ?_
    refine rt1 (.inl rfl) Try.results99 rfl (.cell rfl (i := 1) rfl ty59 rfl ?_ .nil)
    all_goals (exact isZ_eq (by rw [show j = C by omega]))
set_option maxHeartbeats 4000000 in
theorem zmat_Mul {R C D K L : Nat} {xs ys : List (Bool × List Nat)} (hx : Bd (vals xs) K) (hy : Bd (vals ys) L) (hK : K + L ≤ 400000000) (hR : R ≤ 64) (hC : C ≤ 64) (hD : D ≤ 64) (hxl : xs.length = R * C) (hyl : ys.length = C * D) : Ctr Try.prog 48 [isM (R : Int) (C : Int) xs, isM (C : Int) (D : Int) ys] (isTup [isMz R D (tab (R * D) D fun i k => dotS (fun j => cf (vals xs) (i * C + j)) (fun j => cf (vals ys) (j * D + k)) C), isI 0]) := by
  refine Ctr.intro Try.func48 rfl (by kernel_rfl) Try.ntmps48 rfl fun w0 F0 => ?_
  refine Tri.cv (Cv.wk (.cons (t := 0) (Has.t rfl) (.cons (t := 1) (Has.t rfl) .nil))) ?_
  have h1 := side_le hR hC
  have h2 := side_le hC hD
  have hf1 := formB_true hR hC hxl
  have hf2 := formB_true hC hD hyl
  refine Tri.seq fun K1 hK1 => ?_
  refine Tri.region ?_
  refine Ops.box (Has.t rfl) rfl fun b1 => ?_
  refine Ops.box (Has.t rfl) rfl fun b2 => ?_
  refine Ops.alloc [isI 0, isI 0, nilS] zero55 (fun _ _ => ⟨⟨rfl, by decide, by decide⟩, ⟨rfl, by decide, by decide⟩, rfl, trivial⟩) rfl fun b3 => ?_
  refine st (OK1.as (Has.cI 0 rfl)) rfl ?_
  refine nl ?_
  refine At.thn (hK1 _ _ ?_); clear hK1
  refine Tri.seq fun K2 hK2 => ?_
  refine Tri.seq fun K3 hK3 => ?_
  refine Tri.region ?_
  refine st (OK1.load (Has.t rfl) (i := 2) rfl ty55 rfl (Ss' := [_, _, _]) rfl) rfl ?_
  refine st (OK1.eq (OK1.call (zmat_Formed) (.cons (Has.t rfl) .nil)) ((show isB _ = isB true from isB_eq hf1))) rfl ?_
  refine st (OK1.not (Has.t rfl)) rfl ?_
  refine st (OK1.mv (Has.t rfl)) rfl ?_
  refine stF rfl rfl (fun hg => have hg' := BP.t hg; OK1.load (Has.t rfl) (i := 1) rfl ty55 rfl (Ss' := [_, _, _]) rfl) rfl ?_
  refine stF rfl rfl (fun hg => have hg' := BP.t hg; OK1.eq (OK1.call (zmat_Formed) (.cons (Has.g rfl hg) .nil)) ((show isB _ = isB true from isB_eq hf2))) rfl ?_
  refine stF rfl rfl (fun hg => have hg' := BP.t hg; OK1.not (Has.g rfl hg)) rfl ?_
  refine st (OK1.pickOr (Has.t rfl) (fun h => Has.g rfl (ng h))) rfl ?_
  refine st (OK1.mv (Has.t rfl)) rfl ?_
  refine stF rfl rfl (fun hg => have hg' := BP.t hg; OK1.fieldAddr (Has.t rfl) fld55_1 ty3) rfl ?_
  refine stF rfl rfl (fun hg => have hg' := BP.t hg; OK1.load1 (Has.g rfl hg) (i := 2) rfl ty3 rfl) rfl ?_
  refine stF rfl rfl (fun hg => have hg' := BP.t hg; OK1.fieldAddr (Has.t rfl) fld55_0 ty3) rfl ?_
  refine stF rfl rfl (fun hg => have hg' := BP.t hg; OK1.load1 (Has.g rfl hg) (i := 1) rfl ty3 rfl) rfl ?_
  refine stF rfl rfl (fun hg => have hg' := BP.t hg; OK1.neI (Has.g rfl hg) (Has.g rfl hg)) rfl ?_
  refine st (OK1.pickOr (Has.t rfl) (fun h => Has.g rfl (ng h))) rfl ?_
  refine nl ?_
  refine At.thn (hK3 _ _ ?_); clear hK3
  refine Tri.cv (Cv.wk (.cons (t := 2) (Has.t rfl) (.cons (t := 3) (Has.t rfl) (.cons (t := 4) (Has.t rfl) (.cons (t := 5) (Has.t rfl) (.cons (t := 20) (Has.t rfl) .nil)))))) ?_
  refine Tri.cond (Has.t rfl) (fun hc1 => ?_) (fun hc1 => ?_)
  · have hc1 := BP.t hc1
    simp at hc1
  · have hc1 := BP.f hc1
    refine Tri.skip ?_
    refine At.thn (hK2 _ _ ?_); clear hK2
    refine Tri.seq fun K4 hK4 => ?_
    refine Tri.region ?_
    refine st (OK1.fieldAddr (Has.t rfl) fld55_0 ty3) rfl ?_
    refine st (OK1.load1 (Has.t rfl) (i := 2) rfl ty3 rfl) rfl ?_
    refine st (OK1.fieldAddr (Has.t rfl) fld55_1 ty3) rfl ?_
    refine st (OK1.load1 (Has.t rfl) (i := 1) rfl ty3 rfl) rfl ?_
    refine Ops.cv (Cv.freezeBox (t := 2) (i := 2) rfl rfl rfl) ?_
    refine Ops.memEq (M' := [_, _]) rfl ?_
    refine Ops.cv (Cv.wk (.cons (t := 2) (Has.t rfl) (.cons (t := 3) (Has.t rfl) (.cons (t := 4) (Has.t rfl) (.cons (t := 5) (Has.t rfl) (.cons (t := 20) (Has.t rfl) (.cons (t := 23) (Has.t rfl) (.cons (t := 24) (Has.t rfl) (.cons (t := 25) (Has.t rfl) .nil))))))))) ?_
    refine Ops.cv (Cv.freezeBox (t := 3) (i := 1) rfl rfl rfl) ?_
    refine Ops.memEq (M' := [_]) rfl ?_
    refine Ops.cv (Cv.wk (.cons (t := 2) (Has.t rfl) (.cons (t := 3) (Has.t rfl) (.cons (t := 4) (Has.t rfl) (.cons (t := 5) (Has.t rfl) (.cons (t := 20) (Has.t rfl) (.cons (t := 23) (Has.t rfl) (.cons (t := 25) (Has.t rfl) .nil)))))))) ?_
    refine st (OK1.makeFn (ι := PI R D) (As := fun p => [isI (p.1.1 : Int), isI (p.1.2 : Int)]) (R := fun p => Flat (zc (nz (dotS (fun j => cf (vals xs) (p.1.1 * C + j)) (fun j => cf (vals ys) (j * D + p.1.2)) C)))) (fun p => zmat_Mul_1 hx hy hK hC hxl hyl (by omega) (by omega) p.2.1 p.2.2) .nil (.cons (Has.t rfl) (.cons (Has.t rfl) .nil))) rfl ?_
    refine st (OK1.call (zmat_made (f := fun i k => nz (dotS (fun j => cf (vals xs) (i * C + j)) (fun j => cf (vals ys) (j * D + k)) C)) hR hD (fun i k _ _ => by rw [val_words]; have := dotS_nw (f := fun j => cf (vals xs) (i * C + j)) (g := fun j => cf (vals ys) (j * D + k)) (fun j => hx _) (fun j => hy _) C; omega)) (.cons (Has.t rfl) (.cons (Has.t rfl) (.cons (Has.t rfl) .nil)))) rfl ?_
    refine Ops.store (Has.t rfl) (Has.t rfl) (i := 0) rfl ty55 rfl rfl (Ss' := [_, _, _]) rfl (M' := [(some _, cellM [_, _, _])]) rfl ?_
    refine st (OK1.as (Has.cI 0 rfl)) rfl ?_
    refine nl ?_
    refine At.thn (hK4 _ _ ?_); clear hK4
    refine Tri.cv (Cv.wk (.cons (t := 4) (Has.t rfl) (.cons (t := 5) (Has.t rfl) .nil))) ?_
    refine Tri.ret ?_
    refine rtN (.inl rfl) Try.results48 rfl rfl (.cell rfl (i := 0) rfl ty55 rfl ?_ (.tmp (Has.t' rfl ?_) .nil))
    · exact isMz_eq (by rw [zvz fun i k => dotS (fun j => cf (vals xs) (i * C + j)) (fun j => cf (vals ys) (j * D + k)) C])
    · rfl
set_option maxHeartbeats 4000000 in
theorem zmat_Transpose_1 {R C i k : Nat} {xs : List (Bool × List Nat)} (hxl : xs.length = R * C) (hxm : xs.length ≤ 4096) (hi : i < C) (hk : k < R) : Ctr Try.prog 101 [isI (i : Int), isI (k : Int), ptM (R : Int) (C : Int) xs] (Flat (zc (xs.getD (k * C + i) (false, [])))) := by
  refine Ctr.intro Try.func101 rfl (by kernel_rfl) Try.ntmps101 rfl fun w0 F0 => ?_
  refine Tri.cv (Cv.wk (.cons (t := 0) (Has.t rfl) (.cons (t := 1) (Has.t rfl) (.cons (t := 2) (Has.t rfl) .nil)))) ?_
  refine Tri.fact (Has.rngI (Has.t (t := 0) rfl)) fun lt0 => ?_
  refine Tri.fact (Has.rngI (Has.t (t := 1) rfl)) fun lt1 => ?_
  have hp := place_lt hk hi
  refine Tri.seq fun K1 hK1 => ?_
  refine Tri.region ?_
  refine Ops.alloc [isB false, SlM isU []] zero59 (fun _ _ => ⟨rfl, nilM _ _, trivial⟩) rfl fun b1 => ?_
  refine nl ?_
  refine At.thn (hK1 _ _ ?_); clear hK1
  refine Tri.seq fun K2 hK2 => ?_
  refine Tri.region ?_
  refine st (OK1.loadP (Has.t rfl) ty55 rfl (Ss' := [_, _, _]) rfl) rfl ?_
  refine st (OK1.mv (Has.t rfl)) rfl ?_
  refine st (OK1.mv (Has.t rfl)) rfl ?_
  refine st (OK1.call (zmat_get (i := k) (k := i) hxm (by omega)) (.cons (Has.t rfl) (.cons (Has.t rfl) (.cons (Has.t rfl) .nil)))) rfl ?_
  refine Ops.store (Has.t rfl) (Has.t rfl) (i := 0) rfl ty59 rfl rfl (Ss' := [_, _]) rfl (M' := [(some _, cellM [_, _])]) rfl ?_
  refine nl ?_
  refine At.thn (hK2 _ _ ?_); clear hK2
  refine Tri.cv (Cv.wk (.cons (t := 5) (Has.t rfl) .nil)) ?_
  refine Tri.ret ?_
  refine rt1 (.inl rfl) Try.results101 rfl (.cell rfl (i := 0) rfl ty59 rfl ?_ .nil)
  all_goals (rfl)
set_option maxHeartbeats 4000000 in
theorem zmat_Transpose {R C K : Nat} {xs : List (Bool × List Nat)} (hx : Bd (vals xs) K) (hK : K ≤ 400000000) (hR : R ≤ 64) (hC : C ≤ 64) (hxl : xs.length = R * C) : Ctr Try.prog 49 [isM (R : Int) (C : Int) xs] (isTup [isMz C R (tab (C * R) R fun i k => cf (vals xs) (k * C + i)), isI 0]) := by
  refine Ctr.intro Try.func49 rfl (by kernel_rfl) Try.ntmps49 rfl fun w0 F0 => ?_
  refine Tri.cv (Cv.wk (.cons (t := 0) (Has.t rfl) .nil)) ?_
  have h1 := side_le hR hC
  have hf1 := formB_true hR hC hxl
  refine Tri.seq fun K1 hK1 => ?_
  refine Tri.region ?_
  refine Ops.box (Has.t rfl) rfl fun b1 => ?_
  refine Ops.alloc [isI 0, isI 0, nilS] zero55 (fun _ _ => ⟨⟨rfl, by decide, by decide⟩, ⟨rfl, by decide, by decide⟩, rfl, trivial⟩) rfl fun b2 => ?_
  refine st (OK1.as (Has.cI 0 rfl)) rfl ?_
  refine nl ?_
  refine At.thn (hK1 _ _ ?_); clear hK1
  refine Tri.seq fun K2 hK2 => ?_
  refine Tri.seq fun K3 hK3 => ?_
  refine Tri.region ?_
  refine st (OK1.load (Has.t rfl) (i := 1) rfl ty55 rfl (Ss' := [_, _, _]) rfl) rfl ?_
  refine st (OK1.eq (OK1.call (zmat_Formed) (.cons (Has.t rfl) .nil)) ((show isB _ = isB true from isB_eq hf1))) rfl ?_
  refine st (OK1.not (Has.t rfl)) rfl ?_
  refine nl ?_
  refine At.thn (hK3 _ _ ?_); clear hK3
  refine Tri.cond (Has.t rfl) (fun hc1 => ?_) (fun hc1 => ?_)
  · have hc1 := BP.t hc1
    simp at hc1
  · have hc1 := BP.f hc1
    refine Tri.skip ?_
    refine At.thn (hK2 _ _ ?_); clear hK2
    refine Tri.seq fun K4 hK4 => ?_
    refine Tri.region ?_
    refine st (OK1.fieldAddr (Has.t rfl) fld55_1 ty3) rfl ?_
    refine st (OK1.load1 (Has.t rfl) (i := 1) rfl ty3 rfl) rfl ?_
    refine st (OK1.fieldAddr (Has.t rfl) fld55_0 ty3) rfl ?_
    refine st (OK1.load1 (Has.t rfl) (i := 1) rfl ty3 rfl) rfl ?_
    refine Ops.cv (Cv.freezeBox (t := 1) (i := 1) rfl rfl rfl) ?_
    refine Ops.memEq (M' := [_]) rfl ?_
    refine Ops.cv (Cv.wk (.cons (t := 0) (Has.t rfl) (.cons (t := 1) (Has.t rfl) (.cons (t := 2) (Has.t rfl) (.cons (t := 3) (Has.t rfl) (.cons (t := 4) (Has.t rfl) (.cons (t := 5) (Has.t rfl) (.cons (t := 6) (Has.t rfl) (.cons (t := 9) (Has.t rfl) (.cons (t := 11) (Has.t rfl) .nil)))))))))) ?_
    refine st (OK1.makeFn (ι := PI C R) (As := fun p => [isI (p.1.1 : Int), isI (p.1.2 : Int)]) (R := fun p => Flat (zc (xs.getD (p.1.2 * C + p.1.1) (false, [])))) (fun p => zmat_Transpose_1 hxl (by omega) p.2.1 p.2.2) .nil (.cons (Has.t rfl) .nil)) rfl ?_
    refine st (OK1.call (zmat_made (f := fun i k => xs.getD (k * C + i) (false, [])) hC hR (fun i k _ _ => Nat.le_trans (hx.raw _) (by omega))) (.cons (Has.t rfl) (.cons (Has.t rfl) (.cons (Has.t rfl) .nil)))) rfl ?_
    refine Ops.store (Has.t rfl) (Has.t rfl) (i := 0) rfl ty55 rfl rfl (Ss' := [_, _, _]) rfl (M' := [(some _, cellM [_, _, _])]) rfl ?_
    refine st (OK1.as (Has.cI 0 rfl)) rfl ?_
    refine nl ?_
    refine At.thn (hK4 _ _ ?_); clear hK4
    refine Tri.cv (Cv.wk (.cons (t := 2) (Has.t rfl) (.cons (t := 3) (Has.t rfl) .nil))) ?_
    refine Tri.ret ?_
    refine rtN (.inl rfl) Try.results49 rfl rfl (.cell rfl (i := 0) rfl ty55 rfl ?_ (.tmp (Has.t' rfl ?_) .nil))
    · exact isMz_eq (by congr 1; funext i k; rw [cf_vals])
    · rfl
end Go.Proofs.Ytfoclelageohiaa
