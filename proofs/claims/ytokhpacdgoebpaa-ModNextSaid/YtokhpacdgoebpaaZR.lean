/- Whole numbers as a sign and digits; the reference for them. No program here. -/
import Derived.Test.YtokhpacdgoebpaaZ3
namespace Go.Nt
def dv (n : Bool) (xs : List Nat) : Int := if n = true then -(dval xs : Int) else (dval xs : Int)
theorem dv_digs (m : Bool) (n : Nat) : dv m (digs n) = if m = true then -(n : Int) else (n : Int) := by unfold dv; rw [d_val_words]
theorem dv_nf (z : Int) : dv (decide (z < 0)) (digs z.natAbs) = z := by
  rw [dv_digs]
  by_cases h : z < 0
  · rw [decide_eq_true h, if_pos rfl]; omega
  · rw [decide_eq_false h, if_neg (by decide)]; omega
theorem dv_abs (n : Bool) (xs : List Nat) : (dv n xs).natAbs = dval xs := by unfold dv; split <;> omega
theorem nd_pos {n : Nat} (h : n ≠ 0) : 0 < (List.length (digs n)) := by
  rcases Nat.eq_zero_or_pos ((List.length (digs n))) with e | e
  · have h2 : digs n = [] := List.eq_nil_of_length_eq_zero e
    have := d_val_words n
    rw [h2] at this; exact absurd this.symm h
  · exact e
theorem nd_zero : (List.length (digs 0)) = 0 := by rw [d_words_zero]; rfl
theorem norm_neg (m : Bool) (xs : List Nat) : (m && decide (0 < (((List.length (digs (dval xs))) : Nat) : Int))) = decide (dv m xs < 0) := by
  have e : decide (0 < (((List.length (digs (dval xs))) : Nat) : Int)) = decide (dval xs ≠ 0) := by
    apply decide_eq_decide.2
    constructor
    · intro h e; rw [e, nd_zero] at h; simp at h
    · intro h; have := nd_pos h; omega
  rw [e]
  unfold dv
  cases m
  · rw [if_neg (by decide), Bool.false_and]; exact (decide_eq_false (by omega)).symm
  · rw [if_pos rfl, Bool.true_and]; exact decide_eq_decide.2 (by omega)
theorem dsgn0 {x : Int} (h : (((List.length (digs x.natAbs)) : Nat) : Int) = 0) : 0 = sgn x := by
  have : x = 0 := by
    rcases Nat.eq_zero_or_pos x.natAbs with e | e
    · omega
    · have := nd_pos (n := x.natAbs) (by omega); omega
  subst this; rfl
theorem dsgn1 {x : Int} (h : ¬ (((List.length (digs x.natAbs)) : Nat) : Int) = 0) : x ≠ 0 := fun e => h (by rw [e]; show (((List.length (digs 0)) : Nat) : Int) = 0; rw [nd_zero]; rfl)
theorem dv_add_same {x y : Int} (h : (decide (x < 0) == decide (y < 0)) = true) : dv (decide (x < 0)) (digs (x.natAbs + y.natAbs)) = x + y := by
  have h2 : x < 0 ↔ y < 0 := by simpa using h
  rw [dv_digs]
  by_cases hx : x < 0
  · rw [decide_eq_true hx, if_pos rfl]; have := h2.1 hx; omega
  · rw [decide_eq_false hx, if_neg (by decide)]; have : ¬ y < 0 := fun e => hx (h2.2 e); omega
theorem dv_add_sub {x y : Int} (h : (decide (x < 0) == decide (y < 0)) = false) (hle : y.natAbs ≤ x.natAbs) : dv (decide (x < 0)) (digs (x.natAbs - y.natAbs)) = x + y := by
  have h2 : ¬ (x < 0 ↔ y < 0) := by simpa using h
  rw [dv_digs]
  by_cases hx : x < 0
  · rw [decide_eq_true hx, if_pos rfl]; have : ¬ y < 0 := fun e => h2 ⟨fun _ => e, fun _ => hx⟩; omega
  · rw [decide_eq_false hx, if_neg (by decide)]
    have : y < 0 := by
      rcases Int.lt_or_le y 0 with e | e
      · exact e
      · exact absurd ⟨fun a => absurd a hx, fun a => absurd a (by omega)⟩ h2
    omega
theorem dv_mul (x y : Int) : dv (!(decide (x < 0) == decide (y < 0))) (digs (x.natAbs * y.natAbs)) = x * y := by
  rw [dv_digs, Int.natCast_mul]
  have hx : (x.natAbs : Int) = if x < 0 then -x else x := by split <;> omega
  have hy : (y.natAbs : Int) = if y < 0 then -y else y := by split <;> omega
  rw [hx, hy]
  by_cases a : x < 0 <;> by_cases b : y < 0 <;> simp [a, b, Int.neg_mul, Int.mul_neg]
theorem dv_not (x : Int) : dv (!decide (x < 0)) (digs x.natAbs) = -x := by
  rw [dv_digs]
  by_cases h : x < 0
  · rw [decide_eq_true h, Bool.not_true, if_neg (by decide)]; omega
  · rw [decide_eq_false h, Bool.not_false, if_pos rfl]; omega
theorem nd_add_le (a b : Nat) : (List.length (digs (a + b))) ≤ max ((List.length (digs a))) ((List.length (digs b))) + 1 := by
  apply d_nw_le
  have h1 : a < D ^ max ((List.length (digs a))) ((List.length (digs b))) := d_lt_pow_of (Nat.le_max_left _ _)
  have h2 : b < D ^ max ((List.length (digs a))) ((List.length (digs b))) := d_lt_pow_of (Nat.le_max_right _ _)
  rw [Nat.pow_succ]
  have : 2 * D ^ max ((List.length (digs a))) ((List.length (digs b))) ≤ D ^ max ((List.length (digs a))) ((List.length (digs b))) * D := by rw [Nat.mul_comm]; exact Nat.mul_le_mul_left _ (by decide)
  omega
theorem nd_mul_le (a b : Nat) : (List.length (digs (a * b))) ≤ (List.length (digs a)) + (List.length (digs b)) := d_nw_le (by rw [Nat.pow_add]; exact Nat.mul_lt_mul_of_lt_of_lt (d_nw_lt a) (d_nw_lt b))
theorem zd_add (x y : Int) : (List.length (digs (x + y).natAbs)) ≤ max ((List.length (digs x.natAbs))) ((List.length (digs y.natAbs))) + 1 := Nat.le_trans (d_nw_mono (Int.natAbs_add_le x y)) (nd_add_le _ _)
theorem zd_sub (x y : Int) : (List.length (digs (x - y).natAbs)) ≤ max ((List.length (digs x.natAbs))) ((List.length (digs y.natAbs))) + 1 := by
  have := zd_add x (-y); rwa [Int.natAbs_neg, ← Int.sub_eq_add_neg] at this
theorem zd_mul (x y : Int) : (List.length (digs (x * y).natAbs)) ≤ (List.length (digs x.natAbs)) + (List.length (digs y.natAbs)) := by rw [Int.natAbs_mul]; exact nd_mul_le _ _
theorem zd_one : (List.length (digs (1 : Int).natAbs)) = 1 := by show (List.length (digs 1)) = 1; rw [one_digs]; rfl
/-- the quotient rounded down, by a number above 0 -/
theorem flo_pos {x y : Int} (hy : 0 < y) : (0 ≤ x → ((x.natAbs / y.natAbs : Nat) : Int) = x / y) ∧
    (x < 0 → (x.natAbs % y.natAbs = 0 → -((x.natAbs / y.natAbs : Nat) : Int) = x / y) ∧ (x.natAbs % y.natAbs ≠ 0 → -((x.natAbs / y.natAbs : Nat) : Int) - 1 = x / y)) := by
  obtain ⟨b, rfl⟩ : ∃ b : Nat, y = (b : Int) := ⟨y.toNat, by omega⟩
  rw [Int.natAbs_natCast]
  have hb : 0 < b := by omega
  constructor
  · intro h
    obtain ⟨a, rfl⟩ : ∃ a : Nat, x = (a : Int) := ⟨x.toNat, by omega⟩
    rw [Int.natAbs_natCast, Int.natCast_ediv]
  · intro h
    obtain ⟨a, ha, rfl⟩ : ∃ a : Nat, 0 < a ∧ x = -(a : Int) := ⟨x.natAbs, by omega, by omega⟩
    rw [Int.natAbs_neg, Int.natAbs_natCast]
    have e := Nat.div_add_mod a b
    have hm := Nat.mod_lt a hb
    have e' : (a : Int) = b * ((a / b : Nat) : Int) + ((a % b : Nat) : Int) := by rw [← Int.natCast_mul, ← Int.natCast_add, e]
    constructor
    · intro h0
      symm
      rw [h0] at e'
      rw [e']
      rw [Int.natCast_zero, Int.add_zero, ← Int.mul_neg]
      exact Int.mul_ediv_cancel_left _ (by omega)
    · intro h0
      symm
      have e2 : -(a : Int) = (b - ((a % b : Nat) : Int)) + b * (-((a / b : Nat) : Int) - 1) := by
        rw [Int.mul_sub, Int.mul_neg, Int.mul_one]; omega
      rw [e2, Int.add_mul_ediv_left _ _ (by omega), Int.ediv_eq_zero_of_lt (by omega) (by omega)]
      omega
theorem flo0 {x y : Int} (hy : 0 < y) (h : (decide (x < 0) == decide (y < 0)) = true) : dv (!(decide (x < 0) == decide (y < 0))) (digs (x.natAbs / y.natAbs)) = x / y := by
  have hx : 0 ≤ x := by
    have h2 : x < 0 ↔ y < 0 := by simpa using h
    rcases Int.lt_or_le x 0 with e | e
    · have := h2.1 e; omega
    · exact e
  rw [h, dv_digs, Bool.not_true, if_neg (by decide)]
  exact (flo_pos hy).1 hx
theorem flo1 {x y : Int} (hy : 0 < y) (h : (decide (x < 0) == decide (y < 0)) = false) (h0 : x.natAbs % y.natAbs = 0) : dv (!(decide (x < 0) == decide (y < 0))) (digs (x.natAbs / y.natAbs)) = x / y := by
  have hx : x < 0 := by
    rcases Int.lt_or_le x 0 with e | e
    · exact e
    · rw [decide_eq_false (by omega), decide_eq_false (by omega)] at h; simp at h
  rw [h, dv_digs, Bool.not_false, if_pos rfl]
  exact ((flo_pos hy).2 hx).1 h0
theorem flo2 {x y : Int} (hy : 0 < y) (h : (decide (x < 0) == decide (y < 0)) = false) (h0 : x.natAbs % y.natAbs ≠ 0) : dv (!(decide (x < 0) == decide (y < 0))) (digs (x.natAbs / y.natAbs)) - 1 = x / y := by
  have hx : x < 0 := by
    rcases Int.lt_or_le x 0 with e | e
    · exact e
    · rw [decide_eq_false (by omega), decide_eq_false (by omega)] at h; simp at h
  rw [h, dv_digs, Bool.not_false, if_pos rfl]
  exact ((flo_pos hy).2 hx).2 h0
theorem flo_sign {x y : Int} (hy : 0 < y) (h : (decide (x < 0) == decide (y < 0)) = true) : ¬ dv (!(decide (x < 0) == decide (y < 0))) (digs (x.natAbs / y.natAbs)) < 0 := by
  rw [h, dv_digs, Bool.not_true, if_neg (by decide)]; exact Int.not_lt.2 (Int.natCast_nonneg _)
theorem nd_rest0 {n : Nat} (h : (((List.length (digs n)) : Nat) : Int) ≤ 0) : n = 0 := by
  rcases Nat.eq_zero_or_pos n with e | e
  · exact e
  · have := nd_pos (n := n) (by omega); omega
theorem nd_rest1 {n : Nat} (h : 0 < (((List.length (digs n)) : Nat) : Int)) : n ≠ 0 := fun e => by rw [e, nd_zero] at h; simp at h
theorem flo_rest (x y : Int) : x - x / y * y = x % y := by have := Int.mul_ediv_add_emod x y; rw [Int.mul_comm]; omega
/-! ### lines of a product -/
def lineL (a b i k : Nat) : List Nat := List.replicate i 0 ++ (List.range k).map fun j => dg a j * dg b i
theorem lineL_len (a b i k : Nat) : (lineL a b i k).length = i + k := by simp [lineL]
theorem lineL_succ (a b i k : Nat) : lineL a b i (k + 1) = lineL a b i k ++ [dg a k * dg b i] := by simp [lineL, List.range_succ]
theorem lineL_zero (a b i : Nat) : lineL a b i 0 = List.replicate i 0 := by simp [lineL]
theorem dval_rep (k : Nat) : dval (List.replicate k 0) = 0 := d_val_replicate k
theorem dval_line (a b i : Nat) : ∀ k, dval (lineL a b i k) = D ^ i * (a % D ^ k * dg b i)
  | 0 => by rw [lineL_zero, dval_rep, Nat.pow_zero, Nat.mod_one, Nat.zero_mul, Nat.mul_zero]
  | k + 1 => by
    rw [lineL_succ, d_val_append, dval_line a b i k, lineL_len, d_mod_succ]
    simp only [dval, Nat.mul_zero, Nat.add_zero, Nat.add_mul, Nat.mul_add, Nat.pow_add, Nat.mul_assoc]
theorem lineL_le (a b i k : Nat) : ∀ x ∈ lineL a b i k, x ≤ 1099511627776 := by
  intro x hx
  rcases List.mem_append.1 hx with h | h
  · rw [(List.mem_replicate.1 h).2]; exact Nat.zero_le _
  · obtain ⟨j, _, rfl⟩ := List.mem_map.1 h
    have h1 := d_dig_lt a j
    have h2 := d_dig_lt b i
    have := Nat.mul_le_mul (Nat.le_of_lt h1) (Nat.le_of_lt h2)
    unfold D at *; omega
theorem line_sum {a b i k : Nat} (hk : (List.length (digs a)) ≤ k) : a * (b % D ^ i) + dval (lineL a b i k) = a * (b % D ^ (i + 1)) := by
  rw [dval_line, d_mod_succ, Nat.mul_add, Nat.mod_eq_of_lt (d_lt_pow_of hk)]
  rw [Nat.mul_left_comm]
theorem lineL_nd (a b i k : Nat) : (List.length (digs (dval (lineL a b i k)))) ≤ (List.length (digs a)) + (List.length (digs b)) := by
  refine Nat.le_trans (d_nw_mono ?_) (nd_mul_le a b)
  rw [dval_line, Nat.mul_left_comm]
  refine Nat.mul_le_mul (Nat.mod_le _ _) ?_
  have h1 := d_mod_succ b i
  have h2 := Nat.mod_le b (D ^ (i + 1))
  rw [h1] at h2
  exact Nat.le_trans (Nat.le_add_left _ _) h2
theorem mul_end {a b i : Nat} (h : (List.length (digs b)) ≤ i) : a * (b % D ^ i) = a * b := by rw [Nat.mod_eq_of_lt (d_lt_pow_of h)]
theorem mul_part (a b i : Nat) : (List.length (digs (a * (b % D ^ i)))) ≤ (List.length (digs a)) + (List.length (digs b)) := Nat.le_trans (d_nw_mono (Nat.mul_le_mul_left _ (Nat.mod_le _ _))) (nd_mul_le _ _)
theorem rep_succ (k : Nat) : List.replicate (k + 1) 0 = List.replicate k 0 ++ [0] := by rw [List.replicate_succ']
end Go.Nt
