/- Whole numbers as a sign and words. No program here. -/
import Derived.Test.YtokhpacdgoebpaaDigR
namespace Go.Nt
/-- the number of a sign and words -/
def zv (n : Bool) (xs : List Nat) : Int := if n = true then -(val xs : Int) else (val xs : Int)
theorem zv_nf (z : Int) : zv (decide (z < 0)) (words z.natAbs) = z := by
  unfold zv
  rw [val_words]
  by_cases h : z < 0
  · rw [decide_eq_true h, if_pos rfl]; omega
  · rw [decide_eq_false h, if_neg (by decide)]; omega
theorem zv_abs (n : Bool) (xs : List Nat) : (zv n xs).natAbs = val xs := by unfold zv; split <;> omega
theorem zv_neg (n : Bool) (xs : List Nat) : decide (zv n xs < 0) = (n && decide (val xs ≠ 0)) := by
  unfold zv
  cases n
  · rw [if_neg (by decide), Bool.false_and]; exact decide_eq_false (by omega)
  · rw [if_pos rfl, Bool.true_and]; exact decide_eq_decide.2 (by omega)
theorem zv_nw (n : Bool) (xs : List Nat) : (List.length (words (zv n xs).natAbs)) = (List.length (words (val xs))) := by rw [zv_abs]
theorem zv_false (xs : List Nat) : zv false xs = (val xs : Int) := by unfold zv; rw [if_neg (by decide)]
theorem zv_not (n : Bool) (xs : List Nat) : zv (!n) xs = - zv n xs := by
  unfold zv; cases n <;> simp
/-- the sign -/
def sgn (z : Int) : Int := if z = 0 then 0 else if z < 0 then -1 else 1
theorem sgn_eq_sign (z : Int) : sgn z = z.sign := by
  unfold sgn
  rcases Int.lt_trichotomy z 0 with h | h | h
  · rw [if_neg (by omega), if_pos h, Int.sign_eq_neg_one_of_neg h]
  · subst h; rfl
  · rw [if_neg (by omega), if_neg (by omega), Int.sign_eq_one_of_pos h]
def cmpZ (x y : Int) : Int := if x < y then -1 else if y < x then 1 else 0
theorem zv_add_same {m n : Bool} (h : m = n) (xs ys : List Nat) : zv m xs + zv n ys = zv m (words (val xs + val ys)) := by
  subst h; unfold zv; rw [val_words]; cases m <;> simp <;> omega
theorem zv_add_sub {m n : Bool} (h : m ≠ n) {xs ys : List Nat} (hle : val ys ≤ val xs) : zv m xs + zv n ys = zv m (words (val xs - val ys)) := by
  unfold zv; rw [val_words]; cases m <;> cases n <;> simp at h ⊢ <;> omega
theorem zv_mul (m n : Bool) (xs ys : List Nat) : zv m xs * zv n ys = zv (!(m == n)) (words (val xs * val ys)) := by
  unfold zv; rw [val_words]; cases m <;> cases n <;> simp [Int.neg_mul, Int.mul_neg]
theorem zv_tdiv (m n : Bool) (xs ys : List Nat) : (zv m xs).tdiv (zv n ys) = zv (!(m == n)) (words (val xs / val ys)) := by
  have h : ((val xs : Int)).tdiv (val ys : Int) = ((val xs / val ys : Nat) : Int) := Int.ofNat_tdiv _ _ ▸ rfl
  unfold zv; rw [val_words]; cases m <;> cases n <;> simp [Int.neg_tdiv, Int.tdiv_neg, h]
theorem zv_tmod (m n : Bool) (xs ys : List Nat) : (zv m xs).tmod (zv n ys) = zv m (words (val xs % val ys)) := by
  have h : ((val xs : Int)).tmod (val ys : Int) = ((val xs % val ys : Nat) : Int) := Int.ofNat_tmod _ _ ▸ rfl
  unfold zv; rw [val_words]; cases m <;> cases n <;> simp [Int.neg_tmod, Int.tmod_neg, h]
end Go.Nt
