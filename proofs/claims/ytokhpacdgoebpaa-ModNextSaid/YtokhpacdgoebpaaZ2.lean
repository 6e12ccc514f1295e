/- Whole numbers: sizes, rests, the greatest common divisor with what makes it. No program here. -/
import Derived.Test.YtokhpacdgoebpaaZ
namespace Go.Nt
theorem nw_add_le (a b : Nat) : (List.length (words (a + b))) ≤ max ((List.length (words a))) ((List.length (words b))) + 1 := nw_le (add_lt (lt_pow_of (Nat.le_max_left _ _)) (lt_pow_of (Nat.le_max_right _ _)))
theorem nw_mul_le (a b : Nat) : (List.length (words (a * b))) ≤ (List.length (words a)) + (List.length (words b)) := nw_le (by rw [Nat.pow_add]; exact Nat.mul_lt_mul_of_lt_of_lt (nw_lt a) (nw_lt b))
theorem nz_add (x y : Int) : (List.length (words (x + y).natAbs)) ≤ max ((List.length (words x.natAbs))) ((List.length (words y.natAbs))) + 1 := Nat.le_trans (nw_mono (Int.natAbs_add_le x y)) (nw_add_le _ _)
theorem nz_sub (x y : Int) : (List.length (words (x - y).natAbs)) ≤ max ((List.length (words x.natAbs))) ((List.length (words y.natAbs))) + 1 := by
  have := nz_add x (-y); rwa [Int.natAbs_neg, ← Int.sub_eq_add_neg] at this
theorem nz_mul (x y : Int) : (List.length (words (x * y).natAbs)) ≤ (List.length (words x.natAbs)) + (List.length (words y.natAbs)) := by rw [Int.natAbs_mul]; exact nw_mul_le _ _
theorem nz_neg (x : Int) : (List.length (words (-x).natAbs)) = (List.length (words x.natAbs)) := by rw [Int.natAbs_neg]
theorem nz_tdiv (x y : Int) : (List.length (words (x.tdiv y).natAbs)) ≤ (List.length (words x.natAbs)) := by rw [Int.natAbs_tdiv]; exact nw_mono (Nat.div_le_self _ _)
theorem nz_tmod (x y : Int) : (List.length (words (x.tmod y).natAbs)) ≤ (List.length (words x.natAbs)) := by rw [Int.natAbs_tmod]; exact nw_mono (Nat.mod_le _ _)
theorem nz_le {x y : Int} (h0 : 0 ≤ x) (h : x ≤ y) : (List.length (words x.natAbs)) ≤ (List.length (words y.natAbs)) := nw_mono (by omega)
theorem nw_one : (List.length (words 1)) = 1 := by rw [words_small (by decide)]; rfl
theorem nw_small' {n : Nat} (h : n < 18446744073709551616) : (List.length (words n)) ≤ 1 := nw_le (by simpa using h)
/-! ### rests from 0 on -/
theorem tmod_cases (a b : Int) : (0 ≤ a.tmod b → a.tdiv b = a / b ∧ a.tmod b = a % b) ∧
    (a.tmod b < 0 → (0 < b → a.tdiv b - 1 = a / b ∧ a.tmod b + b = a % b) ∧ (b < 0 → a.tdiv b + 1 = a / b ∧ a.tmod b - b = a % b)) := by
  rcases Int.lt_trichotomy b 0 with hb | hb | hb
  · have h1 := Int.emod_nonneg a (show b ≠ 0 by omega)
    have h3 := Int.emod_lt_of_pos a (show 0 < -b by omega)
    rw [Int.emod_neg] at h3
    have h4 := Int.tmod_eq_emod (a := a) (b := b)
    have h5 := Int.tdiv_eq_ediv (a := a) (b := b)
    have h6 := Int.sign_eq_neg_one_of_neg hb
    split at h4
    · rename_i h; rw [if_pos h] at h5; refine ⟨fun _ => ⟨by omega, by omega⟩, fun h7 => ⟨fun h8 => by omega, fun _ => by omega⟩⟩
    · rename_i h; rw [if_neg h, h6] at h5
      refine ⟨fun h7 => ?_, fun h7 => ⟨fun h8 => by omega, fun _ => by omega⟩⟩
      omega
  · subst hb; simp
  · have h1 := Int.emod_nonneg a (show b ≠ 0 by omega)
    have h3 := Int.emod_lt_of_pos a hb
    have h4 := Int.tmod_eq_emod (a := a) (b := b)
    have h5 := Int.tdiv_eq_ediv (a := a) (b := b)
    have h6 := Int.sign_eq_one_of_pos hb
    split at h4
    · rename_i h; rw [if_pos h] at h5; refine ⟨fun _ => ⟨by omega, by omega⟩, fun h7 => ⟨fun h8 => by omega, fun _ => by omega⟩⟩
    · rename_i h; rw [if_neg h, h6] at h5
      refine ⟨fun h7 => ?_, fun h7 => ⟨fun h8 => by omega, fun _ => by omega⟩⟩
      omega
/-! ### the greatest common divisor -/
def cof (a b x next : Int) : Int × Int := if h : b = 0 then (if a < 0 then (-a, -x) else (a, x)) else cof b (a.tmod b) next (x - a.tdiv b * next)
termination_by b.natAbs
decreasing_by
  rw [Int.natAbs_tmod]; exact Nat.mod_lt _ (by omega)
theorem cof_zero (a x next : Int) : cof a 0 x next = if a < 0 then (-a, -x) else (a, x) := by rw [cof, dif_pos rfl]
theorem cof_step {b : Int} (h : b ≠ 0) (a x next : Int) : cof a b x next = cof b (a.tmod b) next (x - a.tdiv b * next) := by rw [cof, dif_neg h]
/-- what stays true on the way, of two numbers that it began with -/
structure Cf (A B a b x next : Int) (X Y : Nat) : Prop where
  g : Nat.gcd a.natAbs b.natAbs = Nat.gcd A.natAbs B.natAbs
  d1 : B ∣ a - x * A
  d2 : B ∣ b - next * A
  x : x.natAbs ≤ X
  y : next.natAbs ≤ Y
  s : Y * a.natAbs + X * b.natAbs = B.natAbs
  X1 : X ≤ max 1 B.natAbs
  Y1 : Y ≤ B.natAbs
  a1 : a.natAbs ≤ max A.natAbs B.natAbs
  b1 : b.natAbs ≤ B.natAbs
theorem Cf.start (A B : Int) : Cf A B A B 1 0 1 0 := by
  refine ⟨rfl, ?_, ?_, by decide, by decide, by omega, Nat.le_max_left _ _, Nat.zero_le _, Nat.le_max_left _ _, Nat.le_refl _⟩
  · rw [Int.one_mul, Int.sub_self]; exact Int.dvd_zero _
  · rw [Int.zero_mul, Int.sub_zero]; exact Int.dvd_refl _
theorem Cf.step {A B a b x next : Int} {X Y : Nat} (c : Cf A B a b x next X Y) (h : b ≠ 0) : Cf A B b (a.tmod b) next (x - a.tdiv b * next) Y (X + (a.tdiv b).natAbs * Y) := by
  have e1 := Int.tmod_add_mul_tdiv a b
  have e2 : a.natAbs = (a.tdiv b).natAbs * b.natAbs + (a.tmod b).natAbs := by
    rw [Int.natAbs_tdiv, Int.natAbs_tmod, Nat.mul_comm]; exact (Nat.div_add_mod _ _).symm
  have hb : 0 < b.natAbs := by omega
  have hs : (X + (a.tdiv b).natAbs * Y) * b.natAbs + Y * (a.tmod b).natAbs = B.natAbs := by
    rw [← c.s, e2, Nat.add_mul, Nat.mul_add, Nat.mul_right_comm, Nat.mul_comm Y ((a.tdiv b).natAbs * b.natAbs)]
    omega
  refine ⟨?_, c.d2, ?_, c.y, ?_, hs, Nat.le_trans c.Y1 (Nat.le_max_right _ _), ?_, Nat.le_trans c.b1 (Nat.le_max_right _ _), ?_⟩
  · rw [← c.g, Int.natAbs_tmod, Nat.gcd_comm a.natAbs, Nat.gcd_rec b.natAbs a.natAbs, Nat.gcd_comm]
  · have e3 : a.tmod b - (x - a.tdiv b * next) * A = (a - x * A) - a.tdiv b * (b - next * A) := by
      rw [Int.sub_mul, Int.mul_sub, Int.mul_assoc, Int.mul_comm (a.tdiv b) b]; omega
    rw [e3]; exact Int.dvd_sub c.d1 (Int.dvd_mul_of_dvd_right c.d2)
  · refine Nat.le_trans (Int.natAbs_sub_le _ _) ?_
    rw [Int.natAbs_mul]
    exact Nat.add_le_add c.x (Nat.mul_le_mul_left _ c.y)
  · have h1 := Nat.le_mul_of_pos_right (X + (a.tdiv b).natAbs * Y) hb
    omega
  · rw [Int.natAbs_tmod]; exact Nat.le_trans (Nat.le_of_lt (Nat.mod_lt _ hb)) c.b1
theorem Cf.fin {A B a x next : Int} {X Y : Nat} (c : Cf A B a 0 x next X Y) : (cof a 0 x next).1 = (Nat.gcd A.natAbs B.natAbs : Nat) ∧ B ∣ (cof a 0 x next).1 - (cof a 0 x next).2 * A ∧ (cof a 0 x next).2.natAbs ≤ max 1 B.natAbs := by
  have hg := c.g
  rw [Int.natAbs_zero, Nat.gcd_zero_right] at hg
  have hx := Nat.le_trans c.x c.X1
  rw [cof_zero]
  by_cases h : a < 0
  · rw [if_pos h]
    refine ⟨by show -a = _; omega, ?_, by show (-x).natAbs ≤ _; rw [Int.natAbs_neg]; exact hx⟩
    show B ∣ -a - -x * A
    have : -a - -x * A = -(a - x * A) := by rw [Int.neg_mul]; omega
    rw [this]; exact Int.dvd_neg.2 c.d1
  · rw [if_neg h]
    exact ⟨by show a = _; omega, c.d1, hx⟩
theorem cof_all (A B : Int) : (cof A B 1 0).1 = (Nat.gcd A.natAbs B.natAbs : Nat) ∧ B ∣ (cof A B 1 0).1 - (cof A B 1 0).2 * A ∧ (cof A B 1 0).2.natAbs ≤ max 1 B.natAbs := by
  have key : ∀ (n : Nat) (a b x next : Int) (X Y : Nat), b.natAbs = n → Cf A B a b x next X Y → (cof a b x next).1 = (Nat.gcd A.natAbs B.natAbs : Nat) ∧ B ∣ (cof a b x next).1 - (cof a b x next).2 * A ∧ (cof a b x next).2.natAbs ≤ max 1 B.natAbs := by
    intro n
    induction n using Nat.strongRecOn with
    | _ n ih =>
      intro a b x next X Y hn c
      by_cases h : b = 0
      · subst h; exact c.fin
      · rw [cof_step h]
        refine ih (a.tmod b).natAbs ?_ _ _ _ _ _ _ rfl (c.step h)
        rw [Int.natAbs_tmod, ← hn]; exact Nat.mod_lt _ (by omega)
  exact key _ _ _ _ _ _ _ rfl (Cf.start A B)
end Go.Nt
