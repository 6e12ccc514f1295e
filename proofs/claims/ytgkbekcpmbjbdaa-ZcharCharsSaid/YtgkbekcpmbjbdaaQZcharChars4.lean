/- Rules and contracts, part 4 of 5. -/
import Derived.Test.YtgkbekcpmbjbdaaQZcharChars3
import Derived.Deep.SlicePairs
/- Contracts: the same matrices. -/
namespace Go.Proofs.Ytgkbekcpmbjbdaa
open Go.En Go.RowKit
set_option linter.unusedVariables false
set_option maxRecDepth 10000
open Go.Nt
open Go.Pz
open Go.Mz
open Go.Hn
open Go.Hp
open Go.Dt
set_option maxHeartbeats 4000000 in
theorem zmat_alike {r c r2 c2 : Int} {xs ys : List (Bool × List Nat)} : Ctr Try.prog 82 [isM r c xs, isM r2 c2 ys] (isB (formB r c xs.length && formB r2 c2 ys.length && decide (r = r2) && decide (c = c2))) := by
  refine Ctr.intro Try.func82 rfl (by kernel_rfl) Try.ntmps82 rfl fun w0 F0 => ?_
  refine Tri.cv (Cv.wk (.cons (t := 0) (Has.t rfl) (.cons (t := 1) (Has.t rfl) .nil))) ?_
  refine Tri.seq fun K1 hK1 => ?_
  refine Tri.region ?_
  refine Ops.box (Has.t rfl) rfl fun b1 => ?_
  refine Ops.box (Has.t rfl) rfl fun b2 => ?_
  refine st (OK1.as (Has.cB false)) rfl ?_
  refine nl ?_
  refine At.thn (hK1 _ _ ?_); clear hK1
  refine Tri.seq fun K2 hK2 => ?_
  refine Tri.region ?_
  refine st (OK1.load (Has.t rfl) (i := 1) rfl ty24 rfl (Ss' := [_, _, _]) rfl) rfl ?_
  refine st (OK1.call (zmat_Formed) (.cons (Has.t rfl) .nil)) rfl ?_
  refine st (OK1.mv (Has.t rfl)) rfl ?_
  refine stT rfl rfl (fun hg => have hg' := BP.t hg; OK1.load (Has.t rfl) (i := 0) rfl ty24 rfl (Ss' := [_, _, _]) rfl) rfl ?_
  refine stT rfl rfl (fun hg => have hg' := BP.t hg; OK1.call (zmat_Formed) (.cons (Has.g rfl hg) .nil)) rfl ?_
  refine st (OK1.pickAnd (Has.t rfl) (fun h => Has.g rfl h)) rfl ?_
  refine st (OK1.mv (Has.t rfl)) rfl ?_
  refine stT rfl rfl (fun hg => have hg' := BP.t hg; OK1.fieldAddr (Has.t rfl) fld24_0 ty3) rfl ?_
  refine stT rfl rfl (fun hg => have hg' := BP.t hg; OK1.load1 (Has.g rfl hg) (i := 1) rfl ty3 rfl) rfl ?_
  refine stT rfl rfl (fun hg => have hg' := BP.t hg; OK1.fieldAddr (Has.t rfl) fld24_0 ty3) rfl ?_
  refine stT rfl rfl (fun hg => have hg' := BP.t hg; OK1.load1 (Has.g rfl hg) (i := 0) rfl ty3 rfl) rfl ?_
  refine stT rfl rfl (fun hg => have hg' := BP.t hg; OK1.eqI (Has.g rfl hg) (Has.g rfl hg)) rfl ?_
  refine st (OK1.pickAnd (Has.t rfl) (fun h => Has.g rfl h)) rfl ?_
  refine st (OK1.mv (Has.t rfl)) rfl ?_
  refine stT rfl rfl (fun hg => have hg' := BP.t hg; OK1.fieldAddr (Has.t rfl) fld24_1 ty3) rfl ?_
  refine stT rfl rfl (fun hg => have hg' := BP.t hg; OK1.load1 (Has.g rfl hg) (i := 1) rfl ty3 rfl) rfl ?_
  refine stT rfl rfl (fun hg => have hg' := BP.t hg; OK1.fieldAddr (Has.t rfl) fld24_1 ty3) rfl ?_
  refine stT rfl rfl (fun hg => have hg' := BP.t hg; OK1.load1 (Has.g rfl hg) (i := 0) rfl ty3 rfl) rfl ?_
  refine stT rfl rfl (fun hg => have hg' := BP.t hg; OK1.eqI (Has.g rfl hg) (Has.g rfl hg)) rfl ?_
  refine st (OK1.pickAnd (Has.t rfl) (fun h => Has.g rfl h)) rfl ?_
  refine st (OK1.as (Has.t rfl)) rfl ?_
  refine nl ?_
  refine At.thn (hK2 _ _ ?_); clear hK2
  refine Tri.cv (Cv.wk (.cons (t := 4) (Has.t rfl) .nil)) ?_
  refine Tri.ret ?_
  refine rt1 (.inl rfl) Try.results82 rfl (.tmp (Has.t' rfl ?_) .nil)
  all_goals (rfl)
end Go.Proofs.Ytgkbekcpmbjbdaa
/- A matrix's characteristic polynomial: its numbers, and those of the adjugate. No program here. -/
namespace Go.Ch
open Go.Dt Go.Dt.RowF
/-! ### polynomials as functions -/
def pe (c : Nat → Int) (d : Nat) (x : Int) : Int := sm d fun i => c i * x ^ i
theorem pe_left (c : Nat → Int) (d : Nat) (x : Int) : pe c (d + 1) x = c 0 + x * pe (fun i => c (i + 1)) d x := by
  unfold pe
  rw [sm_left, Int.pow_zero, Int.mul_one, ← sm_smul]
  congr 1
  exact sm_congr fun i _ => by rw [Int.pow_succ]; grind
theorem pe_lin (x y : Int) (c e : Nat → Int) (d : Nat) (z : Int) : pe (fun i => x * c i + y * e i) d z = x * pe c d z + y * pe e d z := by
  unfold pe
  rw [← sm_lin]
  exact sm_congr fun i _ => by grind
theorem pe_zero : ∀ (d : Nat) (c : Nat → Int), (∀ x, x ≠ 0 → pe c d x = 0) → ∀ i, i < d → c i = 0
  | 0, _, _, i, h => absurd h (Nat.not_lt_zero _)
  | d + 1, c, h, i, hi => by
    have h0 : c 0 = 0 := by
      have h1 := h ((c 0).natAbs + 1 : Nat) (by omega)
      rw [pe_left] at h1
      have hd : (((c 0).natAbs + 1 : Nat) : Int) ∣ c 0 := ⟨-(pe (fun i => c (i + 1)) d ((c 0).natAbs + 1 : Nat)), by rw [Int.mul_neg]; omega⟩
      refine Classical.byContradiction fun hne => ?_
      have h2 := Nat.le_of_dvd (by omega) (Int.natAbs_dvd_natAbs.2 hd)
      rw [Int.natAbs_natCast] at h2
      omega
    cases i with
    | zero => exact h0
    | succ i =>
      refine pe_zero d (fun i => c (i + 1)) (fun x hx => ?_) i (by omega)
      have h1 := h x hx
      rw [pe_left, h0, Int.zero_add] at h1
      rcases Int.mul_eq_zero.1 h1 with g | g
      · exact absurd g hx
      · exact g
theorem pe_inj {d : Nat} {c e : Nat → Int} (h : ∀ x, pe c d x = pe e d x) : ∀ i, i < d → c i = e i := fun i hi => by
  have : 1 * c i + -1 * e i = 0 := pe_zero d (fun i => 1 * c i + -1 * e i) (fun x _ => by rw [pe_lin, h x]; omega) i hi
  omega
theorem pe_succ (c : Nat → Int) (d : Nat) (x : Int) : pe c (d + 1) x = pe c d x + c d * x ^ d := rfl
theorem pe_congr {c e : Nat → Int} {d : Nat} (h : ∀ i, i < d → c i = e i) (x : Int) : pe c d x = pe e d x := sm_congr fun i hi => by rw [h i hi]
/-- a polynomial of at most a degree, and its number there -/
def PL (n : Nat) (f : Int → Int) (t : Int) : Prop := ∃ c : Nat → Int, (∀ x, f x = pe c (n + 1) x) ∧ c n = t
theorem PL.const (a : Int) : PL 0 (fun _ => a) a := ⟨fun _ => a, fun x => by show a = 0 + a * x ^ 0; rw [Int.pow_zero]; omega, rfl⟩
theorem PL.up {n : Nat} {f : Int → Int} {t : Int} (h : PL n f t) : PL (n + 1) f 0 := by
  obtain ⟨c, hc, _⟩ := h
  refine ⟨fun i => if i ≤ n then c i else 0, fun x => ?_, if_neg (by omega)⟩
  rw [pe_succ, if_neg (by omega), Int.zero_mul, Int.add_zero, hc]
  exact pe_congr (fun i hi => (if_pos (by omega)).symm) x
theorem PL.lin {n : Nat} {f g : Int → Int} {s t : Int} (a b : Int) (hf : PL n f s) (hg : PL n g t) : PL n (fun x => a * f x + b * g x) (a * s + b * t) := by
  obtain ⟨c, hc, rfl⟩ := hf
  obtain ⟨e, he, rfl⟩ := hg
  exact ⟨fun i => a * c i + b * e i, fun x => by dsimp only; rw [pe_lin, hc, he], rfl⟩
theorem PL.shift {n : Nat} {f : Int → Int} {t : Int} (h : PL n f t) : PL (n + 1) (fun x => x * f x) t := by
  obtain ⟨c, hc, rfl⟩ := h
  refine ⟨fun i => if i = 0 then 0 else c (i - 1), fun x => ?_, by dsimp only; rw [if_neg (by omega)]; rfl⟩
  dsimp only
  rw [pe_left, if_pos rfl, Int.zero_add, hc]
  congr 1
theorem PL.mul {n : Nat} {g : Int → Int} {t : Int} (a b : Int) (h : PL n g t) : PL (n + 1) (fun x => (a * x + b) * g x) (a * t) := by
  have := PL.lin a b h.shift h.up
  rw [Int.mul_zero, Int.add_zero] at this
  obtain ⟨c, hc, ht⟩ := this
  exact ⟨c, fun x => by rw [← hc]; dsimp only; grind, ht⟩
theorem PL.zero (n : Nat) : PL n (fun _ => 0) 0 := ⟨fun _ => 0, fun x => by unfold pe; rw [sm_zero fun i _ => Int.zero_mul _], rfl⟩
theorem PL.sum {n : Nat} {f : Nat → Int → Int} {t : Nat → Int} : ∀ {m : Nat}, (∀ k, k < m → PL n (f k) (t k)) → PL n (fun x => sm m fun k => f k x) (sm m t)
  | 0, _ => PL.zero n
  | m + 1, h => by
    have h1 := PL.sum (m := m) fun k hk => h k (by omega)
    have h2 := PL.lin 1 1 h1 (h m (by omega))
    obtain ⟨c, hc, ht⟩ := h2
    exact ⟨c, fun x => by rw [← hc]; dsimp only; show sm m (fun k => f k x) + f m x = _; omega, by rw [ht]; show _ = sm m t + t m; omega⟩
theorem PL.det : ∀ (n : Nat) (a b : MatF), PL n (fun x => Go.Dt.det n fun i j => a i j * x + b i j) (Go.Dt.det n a)
  | 0, a, b => PL.const 1
  | n + 1, a, b => by
    have h : PL (n + 1) (fun x => sm (n + 1) fun k => sg k * ((a 0 k * x + b 0 k) * Go.Dt.det n fun i j => a (i + 1) (skip k j) * x + b (i + 1) (skip k j))) (sm (n + 1) fun k => sg k * (a 0 k * Go.Dt.det n fun i j => a (i + 1) (skip k j))) :=
      PL.sum (f := fun k x => sg k * ((a 0 k * x + b 0 k) * Go.Dt.det n fun i j => a (i + 1) (skip k j) * x + b (i + 1) (skip k j))) (t := fun k => sg k * (a 0 k * Go.Dt.det n fun i j => a (i + 1) (skip k j))) fun k _ => by
        have h1 := PL.lin (sg k) 0 (PL.mul (a 0 k) (b 0 k) (PL.det n (fun i j => a (i + 1) (skip k j)) fun i j => b (i + 1) (skip k j))) (PL.zero (n + 1))
        obtain ⟨c, hc, ht⟩ := h1
        exact ⟨c, fun x => by rw [← hc]; dsimp only; omega, by rw [ht]; omega⟩
    exact h
/-! ### the characteristic polynomial -/
/-- x less the matrix -/
def xm (A : MatF) (x : Int) : MatF := fun i j => one i j * x + -(A i j)
theorem cp_ex (n : Nat) (A : MatF) : ∃ c : Nat → Int, (∀ x, det n (xm A x) = pe c (n + 1) x) ∧ c n = 1 := by
  have := PL.det n one fun i j => -(A i j)
  rw [det_one] at this
  exact this
noncomputable def cp (n : Nat) (A : MatF) : Nat → Int := Classical.choose (cp_ex n A)
theorem cp_ev (n : Nat) (A : MatF) (x : Int) : det n (xm A x) = pe (cp n A) (n + 1) x := (Classical.choose_spec (cp_ex n A)).1 x
theorem cp_top (n : Nat) (A : MatF) : cp n A n = 1 := (Classical.choose_spec (cp_ex n A)).2
/-- the adjugate's -/
theorem ca_ex (n : Nat) (A : MatF) (i j : Nat) : ∃ c : Nat → Int, j < n → (∀ x, det n (setr (xm A x) j (one i)) = pe c (n + 1) x) ∧ c n = 0 := by
  by_cases hj : j < n
  · have h := PL.det n (setr one j fun _ => 0) (setr (fun i j => -(A i j)) j (one i))
    rw [(det_rowF n).zero hj fun k _ => by rw [set_at]] at h
    obtain ⟨c, hc, h0⟩ := h
    refine ⟨c, fun _ => ⟨fun x => ?_, h0⟩⟩
    rw [← hc]
    refine det_congr fun r k _ _ => ?_
    unfold setr xm
    by_cases e : r = j
    · rw [if_pos e, if_pos e, if_pos e]; dsimp only; omega
    · rw [if_neg e, if_neg e, if_neg e]
  · exact ⟨fun _ => 0, fun h => absurd h hj⟩
noncomputable def ca (n : Nat) (A : MatF) (m i j : Nat) : Int := Classical.choose (ca_ex n A i j) m
theorem ca_ev {n : Nat} (A : MatF) (i : Nat) {j : Nat} (hj : j < n) (x : Int) : det n (setr (xm A x) j (one i)) = pe (fun m => ca n A m i j) (n + 1) x := (Classical.choose_spec (ca_ex n A i j) hj).1 x
theorem ca_top {n : Nat} (A : MatF) (i : Nat) {j : Nat} (hj : j < n) : ca n A n i j = 0 := (Classical.choose_spec (ca_ex n A i j) hj).2
/-- a matrix times its adjugate -/
theorem adj_mul (n : Nat) (B : MatF) {k i : Nat} (hk : k < n) (hi : i < n) : (sm n fun j => B k j * det n (setr B i (one j))) = if k = i then det n B else 0 := by
  rw [← (det_rowF n).sum B hi (B k) one n]
  have e : det n (setr B i fun j => sm n fun k' => B k k' * one k' j) = det n (setr B i (B k)) := det_congr fun r c _ hc => by
    unfold setr
    split
    · dsimp only
      rw [sm_one (c := c) hc fun m _ hne => by unfold one; rw [if_neg hne, Int.mul_zero]]
      unfold one; rw [if_pos rfl, Int.mul_one]
    · rfl
  rw [e]
  by_cases h : k = i
  · subst h; rw [if_pos rfl, set_self]
  · rw [if_neg h]
    exact (det_rowF n).eqr hi hk (fun e => h e.symm) fun c _ => by rw [set_at, set_ne _ h]
theorem sm_pe (m d : Nat) (a : Nat → Int) (c : Nat → Nat → Int) (x : Int) : (sm m fun j => a j * pe (c j) d x) = pe (fun i => sm m fun j => a j * c j i) d x := by
  unfold pe
  rw [show (fun j => a j * sm d fun i => c j i * x ^ i) = fun j => sm d fun i => a j * (c j i * x ^ i) from funext fun j => (sm_smul _ _ _).symm, sm_swap]
  exact sm_congr fun i _ => by
    rw [Int.mul_comm _ (x ^ i), ← sm_smul]
    exact sm_congr fun j _ => by grind
/-- the adjugate's numbers, one from the next -/
theorem ca_rec {n : Nat} (A : MatF) {m k i : Nat} (hm : m ≤ n) (hk : k < n) (hi : i < n) : (if m = 0 then 0 else ca n A (m - 1) k i) - (sm n fun j => A k j * ca n A m j i) = if k = i then cp n A m else 0 := by
  have key : ∀ x, pe (fun m => (if m = 0 then 0 else ca n A (m - 1) k i)) (n + 2) x = pe (fun m => 1 * (sm n fun j => A k j * if m ≤ n then ca n A m j i else 0) + (if k = i then 1 else 0) * if m ≤ n then cp n A m else 0) (n + 2) x := fun x => by
    rw [pe_left, if_pos rfl, Int.zero_add]
    have e1 : pe (fun i_1 => if i_1 + 1 = 0 then 0 else ca n A (i_1 + 1 - 1) k i) (n + 1) x = pe (fun m => ca n A m k i) (n + 1) x := pe_congr (fun m _ => by rw [if_neg (by omega)]; rfl) x
    rw [e1, ← ca_ev A k hi x, pe_lin]
    have e2 : pe (fun m => if m ≤ n then cp n A m else 0) (n + 2) x = det n (xm A x) := by
      rw [pe_succ, if_neg (by omega), Int.zero_mul, Int.add_zero, cp_ev]
      exact pe_congr (fun m hm => if_pos (by omega)) x
    have e3 : pe (fun m => sm n fun j => A k j * if m ≤ n then ca n A m j i else 0) (n + 2) x = sm n fun j => A k j * det n (setr (xm A x) i (one j)) := by
      rw [← sm_pe]
      refine sm_congr fun j _ => ?_
      rw [pe_succ, if_neg (by omega), Int.zero_mul, Int.add_zero, ca_ev A j hi x]
      congr 1
      exact pe_congr (fun m hm => if_pos (by omega)) x
    rw [e2, e3]
    have h := adj_mul n (xm A x) hk hi
    have e4 : (sm n fun j => xm A x k j * det n (setr (xm A x) i (one j))) = x * det n (setr (xm A x) i (one k)) - sm n fun j => A k j * det n (setr (xm A x) i (one j)) := by
      have e5 : (fun j => xm A x k j * det n (setr (xm A x) i (one j))) = fun j => 1 * (one k j * (x * det n (setr (xm A x) i (one j)))) + -1 * (A k j * det n (setr (xm A x) i (one j))) := by
        funext j
        show (one k j * x + -(A k j)) * _ = _
        generalize det n (setr (xm A x) i (one j)) = D
        generalize one k j = o
        grind
      rw [e5, sm_lin, sm_one (n := n) (c := k) hk fun j _ hne => by unfold one; rw [if_neg (fun e => hne e.symm), Int.zero_mul]]
      have : one k k = 1 := if_pos rfl
      rw [this, Int.one_mul]; omega
    rw [e4] at h
    by_cases g : k = i
    · rw [if_pos g] at h ⊢; omega
    · rw [if_neg g] at h ⊢; omega
  have h := pe_inj key m (by omega)
  try dsimp only at h
  rw [h, if_pos hm, show (fun j => A k j * if m ≤ n then ca n A m j i else 0) = fun j => A k j * ca n A m j i from funext fun j => by rw [if_pos hm]]
  by_cases g : k = i
  · rw [if_pos g, if_pos g]; omega
  · rw [if_neg g, if_neg g]; omega
/-! ### the trace -/
theorem det_dvd (y : Int) : ∀ {n : Nat} {A B : MatF}, (∀ i j, i < n → j < n → y ∣ A i j - B i j) → y ∣ det n A - det n B
  | 0, _, _, _ => ⟨0, by show (1 : Int) - 1 = _; omega⟩
  | n + 1, A, B, h => by
    rw [det_succ, det_succ]
    have key : ∀ m, m ≤ n + 1 → y ∣ (sm m fun k => sg k * (A 0 k * det n fun i j => A (i + 1) (skip k j))) - sm m fun k => sg k * (B 0 k * det n fun i j => B (i + 1) (skip k j)) := by
      intro m
      induction m with
      | zero => intro _; exact ⟨0, by show (0 : Int) - 0 = _; omega⟩
      | succ m ih =>
        intro hm
        obtain ⟨q, hq⟩ := ih (by omega)
        obtain ⟨q1, h1⟩ := h 0 m (by omega) (by omega)
        obtain ⟨q2, h2⟩ := det_dvd y (n := n) (A := fun i j => A (i + 1) (skip m j)) (B := fun i j => B (i + 1) (skip m j)) fun i j hi hj => h (i + 1) (skip m j) (by omega) (skip_lt hj)
        refine ⟨q + sg m * (q1 * (det n fun i j => A (i + 1) (skip m j)) + B 0 m * q2), ?_⟩
        show (sm m (fun k => sg k * (A 0 k * det n fun i j => A (i + 1) (skip k j))) + sg m * (A 0 m * det n fun i j => A (i + 1) (skip m j))) - (sm m (fun k => sg k * (B 0 k * det n fun i j => B (i + 1) (skip k j))) + sg m * (B 0 m * det n fun i j => B (i + 1) (skip m j))) = _
        generalize sm m (fun k => sg k * (A 0 k * det n fun i j => A (i + 1) (skip k j))) = a at *
        generalize sm m (fun k => sg k * (B 0 k * det n fun i j => B (i + 1) (skip k j))) = b at *
        generalize (det n fun i j => A (i + 1) (skip m j)) = d at *
        generalize (det n fun i j => B (i + 1) (skip m j)) = e at *
        generalize sg m = s at *
        have e1 : A 0 m = B 0 m + y * q1 := by omega
        have e2 : d = e + y * q2 := by omega
        have e3 : a = b + y * q := by omega
        rw [e1, e2, e3]
        grind
    exact key (n + 1) (Nat.le_refl _)
/-- a determinant beside another one, but for squares -/
theorem det_near (n : Nat) (B : MatF) (y : Int) : y * y ∣ det n (fun i j => B i j + y * one i j) - (det n B + y * sm n fun k => det n (setr B k (one k))) := by
  have key : ∀ m, m ≤ n → y * y ∣ det n (fun i j => if i < m then B i j + y * one i j else B i j) - (det n B + y * sm m fun k => det n (setr B k (one k))) := by
    intro m
    induction m with
    | zero =>
      intro _
      have : (fun i j => if i < 0 then B i j + y * one i j else B i j) = B := by funext i j; exact if_neg (Nat.not_lt_zero _)
      rw [this]
      exact ⟨0, by show det n B - (det n B + y * 0) = _; omega⟩
    | succ m ih =>
      intro hm
      obtain ⟨q, hq⟩ := ih (by omega)
      obtain ⟨C, hC⟩ : ∃ C : MatF, C = fun i j => if i < m then B i j + y * one i j else B i j := ⟨_, rfl⟩
      rw [← hC] at hq
      have e1 : (fun i j => if i < m + 1 then B i j + y * one i j else B i j) = setr C m fun j => C m j + y * one m j := by
        funext i j
        unfold setr
        rw [hC]
        dsimp only
        by_cases e : i = m
        · subst e; rw [if_pos (by omega), if_pos rfl, if_neg (by omega)]
        · rw [if_neg e]
          by_cases g : i < m
          · rw [if_pos (by omega), if_pos g]
          · rw [if_neg (by omega), if_neg g]
      rw [e1, (det_rowF n).add C (show m < n by omega), (det_rowF n).smul C (show m < n by omega), set_self]
      obtain ⟨q2, h2⟩ := det_dvd y (n := n) (A := setr C m (one m)) (B := setr B m (one m)) fun i j _ _ => by
        unfold setr
        split
        · exact ⟨0, by omega⟩
        · rw [hC]
          dsimp only
          by_cases g : i < m
          · rw [if_pos g]; exact ⟨one i j, by omega⟩
          · rw [if_neg g]; exact ⟨0, by omega⟩
      refine ⟨q + q2, ?_⟩
      show det n C + y * det n (setr C m (one m)) - (det n B + y * (sm m (fun k => det n (setr B k (one k))) + det n (setr B m (one m)))) = _
      generalize det n (setr C m (one m)) = a at *
      generalize det n (setr B m (one m)) = b at *
      generalize det n C = c at *
      generalize det n B = d at *
      generalize sm m (fun k => det n (setr B k (one k))) = s at *
      have e2 : a = b + y * q2 := by omega
      have e3 : c = d + y * s + y * y * q := by omega
      rw [e2, e3]
      grind
  have h := key n (Nat.le_refl _)
  have e : det n (fun i j => if i < n then B i j + y * one i j else B i j) = det n (fun i j => B i j + y * one i j) := det_congr fun i j hi _ => if_pos hi
  rw [e] at h
  exact h
theorem pow_near (x y : Int) : ∀ i : Nat, y * y ∣ (x + y) ^ (i + 1) - (x ^ (i + 1) + y * (((i + 1 : Nat) : Int) * x ^ i))
  | 0 => ⟨0, by rw [Int.pow_succ, Int.pow_zero, Int.pow_succ, Int.pow_zero]; simp⟩
  | i + 1 => by
    obtain ⟨q, hq⟩ := pow_near x y i
    refine ⟨q * (x + y) + ((i + 1 : Nat) : Int) * x ^ i, ?_⟩
    rw [Int.pow_succ (x + y) (i + 1), Int.pow_succ x (i + 1)]
    have e : (x + y) ^ (i + 1) = x ^ (i + 1) + y * (((i + 1 : Nat) : Int) * x ^ i) + y * y * q := by omega
    rw [e, show (((i + 1 + 1 : Nat)) : Int) = ((i + 1 : Nat) : Int) + 1 by omega]
    have e2 : x ^ (i + 1) = x ^ i * x := Int.pow_succ x i
    rw [e2]
    generalize x ^ i = a
    generalize ((i + 1 : Nat) : Int) = b
    grind
theorem pe_near (c : Nat → Int) (x y : Int) : ∀ d : Nat, y * y ∣ pe c (d + 1) (x + y) - (pe c (d + 1) x + y * pe (fun m => ((m + 1 : Nat) : Int) * c (m + 1)) d x)
  | 0 => ⟨0, by show 0 + c 0 * (x + y) ^ 0 - (0 + c 0 * x ^ 0 + y * 0) = _; rw [Int.pow_zero, Int.pow_zero]; omega⟩
  | d + 1 => by
    obtain ⟨q, hq⟩ := pe_near c x y d
    obtain ⟨r, hr⟩ := pow_near x y d
    refine ⟨q + c (d + 1) * r, ?_⟩
    rw [pe_succ c (d + 1), pe_succ c (d + 1) x, pe_succ (fun m => ((m + 1 : Nat) : Int) * c (m + 1)) d x]
    generalize pe c (d + 1) (x + y) = a at *
    generalize pe c (d + 1) x = b at *
    generalize pe (fun m => ((m + 1 : Nat) : Int) * c (m + 1)) d x = s at *
    have e1 : a = b + y * s + y * y * q := by omega
    have e2 : (x + y) ^ (d + 1) = x ^ (d + 1) + y * (((d + 1 : Nat) : Int) * x ^ d) + y * y * r := by omega
    rw [e1, e2]
    generalize x ^ (d + 1) = u
    generalize x ^ d = v
    generalize ((d + 1 : Nat) : Int) = w
    grind
/-- the adjugate's trace is what the polynomial grows by -/
theorem ca_tr {n : Nat} (A : MatF) {m : Nat} (hm : m < n) : (sm n fun i => ca n A m i i) = ((m + 1 : Nat) : Int) * cp n A (m + 1) := by
  have key : ∀ x, pe (fun m => sm n fun i => 1 * ca n A m i i) n x = pe (fun m => ((m + 1 : Nat) : Int) * cp n A (m + 1)) n x := fun x => by
    have hS : pe (fun m => sm n fun i => 1 * ca n A m i i) n x = sm n fun i => det n (setr (xm A x) i (one i)) := by
      rw [← sm_pe]
      refine sm_congr fun i hi => ?_
      rw [ca_ev A i hi x, pe_succ, ca_top A i hi, Int.zero_mul, Int.add_zero, Int.one_mul]
    rw [hS]
    obtain ⟨S, hSe⟩ : ∃ S, S = sm n fun i => det n (setr (xm A x) i (one i)) := ⟨_, rfl⟩
    obtain ⟨D, hDe⟩ : ∃ D, D = pe (fun m => ((m + 1 : Nat) : Int) * cp n A (m + 1)) n x := ⟨_, rfl⟩
    rw [← hSe, ← hDe]
    refine Classical.byContradiction fun hne => ?_
    have hy : ∀ y : Int, y ≠ 0 → y ∣ S - D := fun y hy0 => by
      obtain ⟨q, hq⟩ := det_near n (xm A x) y
      obtain ⟨r, hr⟩ := pe_near (cp n A) x y n
      have e : det n (fun i j => xm A x i j + y * one i j) = det n (xm A (x + y)) := det_congr fun i j _ _ => by
        show one i j * x + -(A i j) + y * one i j = one i j * (x + y) + -(A i j)
        generalize one i j = o
        grind
      rw [e, cp_ev, cp_ev, ← hSe] at hq
      rw [← hDe] at hr
      refine ⟨r - q, Int.eq_of_mul_eq_mul_left hy0 ?_⟩
      generalize pe (cp n A) (n + 1) (x + y) = a at *
      generalize pe (cp n A) (n + 1) x = b at *
      rw [Int.mul_sub, ← Int.mul_assoc, Int.mul_sub]
      omega
    have h1 := hy ((S - D).natAbs + 1 : Nat) (by omega)
    have h2 := Nat.le_of_dvd (by omega) (Int.natAbs_dvd_natAbs.2 h1)
    rw [Int.natAbs_natCast] at h2
    omega
  have h := pe_inj key m hm
  simp only [Int.one_mul] at h
  exact h
/-- the trace of the product -/
theorem ca_atr {n : Nat} (A : MatF) {m : Nat} (hm : m < n) : (sm n fun i => sm n fun j => A i j * ca n A m j i) = -(((n - m : Nat) : Int) * cp n A m) := by
  have h : (sm n fun i => sm n fun j => A i j * ca n A m j i) = sm n fun i => 1 * (if m = 0 then 0 else ca n A (m - 1) i i) + -1 * cp n A m := sm_congr fun i hi => by
    have := ca_rec A (show m ≤ n by omega) hi hi
    rw [if_pos rfl] at this
    omega
  rw [h, sm_lin]
  have hc : ∀ (t : Int) (k : Nat), (sm k fun _ => t) = (k : Int) * t := fun t k => by
    induction k with
    | zero => show 0 = _; omega
    | succ k ih =>
      show (sm k fun _ => t) + t = _
      rw [ih, show ((k + 1 : Nat) : Int) = (k : Int) + 1 by omega, Int.add_mul]; omega
  rw [hc]
  by_cases h0 : m = 0
  · subst h0
    rw [show (fun i => if 0 = 0 then (0 : Int) else ca n A (0 - 1) i i) = fun _ => 0 from funext fun i => if_pos rfl, hc, Nat.sub_zero]
    omega
  · have ht := ca_tr A (show m - 1 < n by omega)
    rw [show m - 1 + 1 = m by omega] at ht
    rw [show (fun i => if m = 0 then (0 : Int) else ca n A (m - 1) i i) = fun i => ca n A (m - 1) i i from funext fun i => if_neg h0, ht, show ((n - m : Nat) : Int) = (n : Int) - m by omega, Int.sub_mul]
    omega
end Go.Ch
/- How far the numbers of Hermite's form grow: by the pivots that are found. No program here. -/
namespace Go.Hp
open Go.Dt Go.Hn Go.Pz Go.Nt Go.Mz Go.En
/-- a bound that grows with each pivot -/
def hq (R K : Nat) : Nat → Nat
  | 0 => K
  | t + 1 => hq R K t * (R + 1 - t)
end Go.Hp
/- The rows that two matrices both have, as lists; what becomes noughts. No program here. -/
namespace Go.Hp
open Go.Dt Go.Hn Go.Pz Go.Nt Go.Mz Go.En
/-! ### multiples, columns -/
def sclL (R C : Nat) (c : Int) (L : List Int) : List Int := tab (R * C) C fun i k => cf L (i * C + k) * c
theorem sclL_len (R C : Nat) (c : Int) (L : List Int) : (sclL R C c L).length = R * C := tab_len _ _ _
theorem sclL_at {R C i k : Nat} {c : Int} {L : List Int} (hi : i < R) (hk : k < C) : mf C (sclL R C c L) i k = mf C L i k * c := cf_tab' _ hk (place_lt hi hk)
/-! ### meets -/
/-! ### sizes of small ones -/
/-! ### what becomes noughts -/
def zeroB (L : List Int) : Bool := decide (∀ j, j < L.length → cf L j = 0)
end Go.Hp
/- Faddeev's and Leverrier's steps: the characteristic polynomial from traces. No program here. -/
namespace Go.Ch
open Go.Dt Go.Pz Go.Nt Go.Mz Go.En Go.Hp
def oneL (n : Nat) : List Int := tab (n * n) n one
def prdL (n : Nat) (a b : List Int) : List Int := tab (n * n) n fun i k => dotS (fun j => cf a (i * n + j)) (fun j => cf b (j * n + k)) n
def sumL (n : Nat) (a b : List Int) : List Int := tab (n * n) n fun i k => cf a (i * n + k) + cf b (i * n + k)
def trcL (n : Nat) (a : List Int) : Nat → Int := fun k => sm k fun i => cf a (i * n + i)
theorem oneL_len (n : Nat) : (oneL n).length = n * n := tab_len _ _ _
theorem prdL_len (n : Nat) (a b : List Int) : (prdL n a b).length = n * n := tab_len _ _ _
theorem sumL_len (n : Nat) (a b : List Int) : (sumL n a b).length = n * n := tab_len _ _ _
theorem nw_01 (i j : Nat) : (List.length (words (one i j).natAbs)) ≤ 1 := by
  unfold one
  split
  · exact nw_small' (by decide)
  · rw [Int.natAbs_zero, words_zero]; exact Nat.zero_le _
theorem oneL_bd (n : Nat) : Bd (oneL n) 1 := Bd_tab fun i j => nw_01 i j
theorem prdL_bd {n K L : Nat} {a b : List Int} (ha : Bd a K) (hb : Bd b L) : Bd (prdL n a b) (K + L + n) := Bd_tab fun i k => dotS_nw (fun j => ha _) (fun j => hb _) n
theorem sumL_bd {n K : Nat} {a b : List Int} (ha : Bd a K) (hb : Bd b K) : Bd (sumL n a b) (K + 1) := Bd_tab fun i k => by
  have h1 := nz_add (cf a (i * n + k)) (cf b (i * n + k))
  have h2 := ha (i * n + k)
  have h3 := hb (i * n + k)
  omega
theorem oneL_at {n i k : Nat} (hi : i < n) (hk : k < n) : mf n (oneL n) i k = one i k := cf_tab' _ hk (place_lt hi hk)
theorem prdL_at {n i k : Nat} {a b : List Int} (hi : i < n) (hk : k < n) : mf n (prdL n a b) i k = sm n fun j => mf n a i j * mf n b j k := by
  show cf _ (i * n + k) = _
  unfold prdL
  rw [cf_tab' _ hk (place_lt hi hk), dotS_sm]; rfl
theorem sumL_at {n i k : Nat} {a b : List Int} (hi : i < n) (hk : k < n) : mf n (sumL n a b) i k = mf n a i k + mf n b i k := cf_tab' _ hk (place_lt hi hk)
theorem mat_ext {n : Nat} {a b : List Int} (ha : a.length = n * n) (hb : b.length = n * n) (h : ∀ i k, i < n → k < n → mf n a i k = mf n b i k) : a = b :=
  ext_cf (by rw [ha, hb]) fun j hj => by
    rw [ha] at hj
    obtain ⟨i, k, hi, hk, rfl⟩ := place_of hj
    exact h i k hi hk
/-! ### the steps -/
noncomputable def flM (n : Nat) (L : List Int) (k : Nat) : List Int := tab (n * n) n fun i j => ca n (mf n L) (n - k) i j
noncomputable def flC (n : Nat) (L : List Int) (k : Nat) : Int := cp n (mf n L) (n - k)
theorem flM_len (n : Nat) (L : List Int) (k : Nat) : (flM n L k).length = n * n := tab_len _ _ _
theorem flM_at {n i j : Nat} {L : List Int} {k : Nat} (hi : i < n) (hj : j < n) : mf n (flM n L k) i j = ca n (mf n L) (n - k) i j := cf_tab' _ hj (place_lt hi hj)
theorem fl_one {n : Nat} {L : List Int} (hn : 0 < n) : flM n L 1 = oneL n := mat_ext (flM_len _ _ _) (oneL_len n) fun i k hi hk => by
  rw [flM_at hi hk, oneL_at hi hk]
  have h := ca_rec (mf n L) (Nat.le_refl n) hi hk
  rw [if_neg (by omega), sm_zero fun j _ => by rw [ca_top (mf n L) j hk, Int.mul_zero], cp_top] at h
  unfold one
  omega
theorem fl_tr {n k : Nat} {L : List Int} (h1 : 1 ≤ k) (h2 : k ≤ n) : trcL n (prdL n L (flM n L k)) n = -((k : Int) * flC n L k) := by
  have h := ca_atr (n := n) (mf n L) (m := n - k) (by omega)
  rw [show n - (n - k) = k by omega] at h
  unfold flC
  rw [← h]
  exact sm_congr fun i hi => by
    show mf n (prdL n L (flM n L k)) i i = _
    rw [prdL_at hi hi]
    exact sm_congr fun j hj => by rw [flM_at hj hi]
theorem fl_next {n k : Nat} {L : List Int} (h1 : 1 ≤ k) (h2 : k < n) : sumL n (prdL n L (flM n L k)) (sclL n n (flC n L k) (oneL n)) = flM n L (k + 1) := mat_ext (sumL_len _ _ _) (flM_len _ _ _) fun i j hi hj => by
  rw [sumL_at hi hj, prdL_at hi hj, sclL_at hi hj, oneL_at hi hj, flM_at hi hj]
  have h := ca_rec (mf n L) (m := n - k) (by omega) hi hj
  rw [if_neg (by omega)] at h
  have e : (sm n fun r => mf n L i r * mf n (flM n L k) r j) = sm n fun r => mf n L i r * ca n (mf n L) (n - k) r j := sm_congr fun r hr => by rw [flM_at hr hj]
  rw [e, show n - (k + 1) = n - k - 1 by omega]
  unfold one flC
  by_cases g : i = j
  · rw [if_pos g] at h ⊢; omega
  · rw [if_neg g] at h ⊢; omega
/-! ### sizes -/
def flB (n K k : Nat) : Nat := 1 + (k - 1) * (K + 2 * n + 1)
theorem fl_cbd {n K k B : Nat} {L : List Int} (hb : Bd L K) (hm : Bd (flM n L k) B) (h1 : 1 ≤ k) (h2 : k ≤ n) : (List.length (words (flC n L k).natAbs)) ≤ K + B + 2 * n := by
  have ht := fl_tr (L := L) h1 h2
  have hs : (List.length (words (trcL n (prdL n L (flM n L k)) n).natAbs)) ≤ K + B + n + n := sm_nw (fun i => prdL_bd hb hm _) n
  rw [ht, Int.natAbs_neg, Int.natAbs_mul, Int.natAbs_natCast] at hs
  refine Nat.le_trans (nw_mono (Nat.le_mul_of_pos_left _ h1)) ?_
  omega
theorem fl_bd {n K : Nat} {L : List Int} (hb : Bd L K) : ∀ k, 1 ≤ k → k ≤ n → Bd (flM n L k) (flB n K k)
  | 0, h, _ => absurd h (by decide)
  | 1, _, h => by rw [fl_one h]; exact (oneL_bd n).mono (by unfold flB; omega)
  | k + 2, _, h => by
    have ih := fl_bd hb (k + 1) (Nat.succ_pos k) (Nat.le_of_succ_le h)
    have e := fl_next (n := n) (k := k + 1) (L := L) (Nat.succ_pos k) h
    show Bd (flM n L (k + 1 + 1)) _
    rw [← e]
    have hc := fl_cbd (n := n) (k := k + 1) hb ih (Nat.succ_pos k) (Nat.le_of_succ_le h)
    have hs : Bd (sclL n n (flC n L (k + 1)) (oneL n)) (K + flB n K (k + 1) + 2 * n) := Bd_tab fun i j => by
      rcases Nat.lt_or_ge (i * n + j) (n * n) with g | g
      · obtain ⟨i', j', hi, hj, e⟩ := place_of g
        rw [e, show cf (oneL n) (i' * n + j') = one i' j' from oneL_at hi hj]
        unfold one
        split
        · rw [Int.one_mul]; exact hc
        · rw [Int.zero_mul, Int.natAbs_zero, words_zero]; exact Nat.zero_le _
      · rw [cf_high (by rw [oneL_len]; exact g), Int.zero_mul, Int.natAbs_zero, words_zero]; exact Nat.zero_le _
    refine (sumL_bd ((prdL_bd hb ih).mono (show K + flB n K (k + 1) + n ≤ K + flB n K (k + 1) + 2 * n by omega)) hs).mono ?_
    have e2 : (k + 2 - 1) * (K + 2 * n + 1) = (k + 1 - 1) * (K + 2 * n + 1) + (K + 2 * n + 1) := by rw [show k + 2 - 1 = (k + 1 - 1) + 1 by omega, Nat.add_mul, Nat.one_mul]
    unfold flB
    rw [e2]
    omega
/-- the polynomial's numbers, from the power 0 on -/
noncomputable def chL (n : Nat) (L : List Int) : List Int := (List.range (n + 1)).map (cp n (mf n L))
theorem chL_len (n : Nat) (L : List Int) : (chL n L).length = n + 1 := by unfold chL; rw [List.length_map, List.length_range]
theorem chL_at {n i : Nat} {L : List Int} (h : i ≤ n) : cf (chL n L) i = cp n (mf n L) i := by unfold chL; rw [cf_tab, if_pos (by omega)]
theorem chL_bd {n K : Nat} {L : List Int} (hb : Bd L K) : Bd (chL n L) (K + flB n K n + 2 * n + 1) := fun i => by
  unfold chL
  rw [cf_tab]
  split
  · rename_i hi
    rcases Nat.lt_or_ge i n with g | g
    · have h := fl_cbd (n := n) (k := n - i) hb (fl_bd (n := n) hb (n - i) (by omega) (by omega)) (by omega) (by omega)
      unfold flC at h
      rw [show n - (n - i) = i by omega] at h
      refine Nat.le_trans h ?_
      have : flB n K (n - i) ≤ flB n K n := by unfold flB; exact Nat.add_le_add_left (Nat.mul_le_mul_right _ (by omega)) _
      omega
    · rw [show i = n by omega, cp_top]
      exact Nat.le_trans (nw_small' (by decide)) (by omega)
  · rw [Int.natAbs_zero, words_zero]; exact Nat.zero_le _
/-- the list as it is filled, from its end on -/
noncomputable def qF (n : Nat) (L : List Int) (k : Nat) : List (Bool × List Nat) := (List.range (n + 1)).map fun i => if n + 1 ≤ i + k then nz (cp n (mf n L) i) else (false, [])
theorem qF_len (n : Nat) (L : List Int) (k : Nat) : (qF n L k).length = n + 1 := by unfold qF; rw [List.length_map, List.length_range]
theorem qF_get {n i : Nat} (L : List Int) (k : Nat) (h : i < n + 1) : (qF n L k)[i]? = some (if n + 1 ≤ i + k then nz (cp n (mf n L) i) else (false, [])) := by
  unfold qF
  rw [List.getElem?_map, List.getElem?_range h]; rfl
theorem qF_ext {n : Nat} {a b : List (Bool × List Nat)} (ha : a.length = n + 1) (hb : b.length = n + 1) (h : ∀ i, i < n + 1 → a[i]? = b[i]?) : a = b := List.ext_getElem? fun i => by
  rcases Nat.lt_or_ge i (n + 1) with g | g
  · exact h i g
  · rw [List.getElem?_eq_none (by omega), List.getElem?_eq_none (by omega)]
theorem qF_set {n k : Nat} {L : List Int} (h : k ≤ n) : (qF n L k).set (n - k) (nz (cp n (mf n L) (n - k))) = qF n L (k + 1) :=
  qF_ext (by rw [List.length_set, qF_len]) (qF_len _ _ _) fun i hi => by
    rw [qF_get L (k + 1) hi]
    by_cases e : n - k = i
    · rw [← e, List.getElem?_set_self (by rw [qF_len]; omega), if_pos (by omega)]
    · rw [List.getElem?_set_ne e, qF_get L k hi]
      by_cases g : n + 1 ≤ i + k
      · rw [if_pos g, if_pos (by omega)]
      · rw [if_neg g, if_neg (by omega)]
theorem qF_zero (n : Nat) (L : List Int) : qF n L 0 = List.replicate (n + 1) (false, []) :=
  qF_ext (qF_len _ _ _) List.length_replicate fun i hi => by
    rw [qF_get L 0 hi, List.getElem?_replicate, if_pos hi, if_neg (by omega)]
theorem qF_one (n : Nat) (L : List Int) : (List.replicate (n + 1) ((false, []) : Bool × List Nat)).set n (nz 1) = qF n L 1 := by
  rw [← qF_zero n L]
  have := qF_set (n := n) (k := 0) (L := L) (Nat.zero_le _)
  rw [Nat.sub_zero, cp_top] at this
  exact this
theorem qF_done (n : Nat) (L : List Int) : qF n L (n + 1) = (chL n L).map nz := by
  unfold qF chL
  rw [List.map_map]
  exact List.map_congr_left fun i _ => if_pos (Nat.le_add_left _ _)
theorem chL_norm (n : Nat) (L : List Int) : pnorm (chL n L) = chL n L := by
  have h := take_norm (l := chL n L) (n := n + 1) (.inr (by rw [Nat.add_sub_cancel, chL_at (Nat.le_refl n), cp_top]; decide)) (fun i hi => cf_high (by rw [chL_len]; exact hi))
  rw [List.take_of_length_le (by rw [chL_len]; exact Nat.le_refl _)] at h
  exact h.symm
end Go.Ch
/- Powers of a matrix; values of polynomials at it; the characteristic one's is noughts. No program here. -/
namespace Go.Ch
open Go.Dt Go.Pz Go.Nt Go.Mz Go.En Go.Hp
/-! ### values -/
theorem scl_one_bd {n K : Nat} {c : Int} (h : (List.length (words c.natAbs)) ≤ K) : Bd (sclL n n c (oneL n)) K := Bd_tab fun i j => by
  rcases Nat.lt_or_ge (i * n + j) (n * n) with g | g
  · obtain ⟨i', j', hi, hj, e⟩ := place_of g
    rw [e, show cf (oneL n) (i' * n + j') = one i' j' from oneL_at hi hj]
    unfold one
    split
    · rw [Int.one_mul]; exact h
    · rw [Int.zero_mul, Int.natAbs_zero, words_zero]; exact Nat.zero_le _
  · rw [cf_high (by rw [oneL_len]; exact g), Int.zero_mul, Int.natAbs_zero, words_zero]; exact Nat.zero_le _
end Go.Ch
/- Contracts: matrices of noughts and ones, sums. -/
namespace Go.Proofs.Ytgkbekcpmbjbdaa
open Go.En Go.RowKit
set_option linter.unusedVariables false
set_option maxRecDepth 10000
open Go.Nt
open Go.Pz
open Go.Mz
open Go.Hn
open Go.Hp
open Go.Dt
open Go.Ch
set_option maxHeartbeats 4000000 in
theorem zmat_Identity_1 {i k : Nat} : Ctr Try.prog 107 [isI (i : Int), isI (k : Int)] (Flat (zc (nz (one i k)))) := by
  refine Ctr.intro Try.func107 rfl (by kernel_rfl) Try.ntmps107 rfl fun w0 F0 => ?_
  refine Tri.cv (Cv.wk (.cons (t := 0) (Has.t rfl) (.cons (t := 1) (Has.t rfl) .nil))) ?_
  refine Tri.fact (Has.rngI (Has.t (t := 0) rfl)) fun lt0 => ?_
  refine Tri.fact (Has.rngI (Has.t (t := 1) rfl)) fun lt1 => ?_
  refine Tri.seq fun K1 hK1 => ?_
  refine Tri.region ?_
  refine Ops.alloc [isB false, SlM isU []] zero44 (fun _ _ => ⟨rfl, nilM _ _, trivial⟩) rfl fun b1 => ?_
  refine nl ?_
  refine At.thn (hK1 _ _ ?_); clear hK1
  refine Tri.seq fun K2 hK2 => ?_
  refine Tri.seq fun K3 hK3 => ?_
  refine Tri.region ?_
  refine st (OK1.mv (Has.t rfl)) rfl ?_
  refine st (OK1.mv (Has.t rfl)) rfl ?_
  refine st (OK1.eqI (Has.t rfl) (Has.t rfl)) rfl ?_
  refine nl ?_
  refine At.thn (hK3 _ _ ?_); clear hK3
  refine Tri.cond (Has.t rfl) (fun hc1 => ?_) (fun hc1 => ?_)
  · have hc1 := BP.t hc1
    refine Tri.seq fun K4 hK4 => ?_
    refine Tri.region ?_
    refine st (OK1.call (zint_Of) (.cons (Has.cI 1 rfl) .nil)) rfl ?_
    refine Ops.store (Has.t rfl) (Has.t rfl) (i := 0) rfl ty44 rfl rfl (Ss' := [_, _]) rfl (M' := [(some _, cellM [_, _])]) rfl ?_
    refine nl ?_
    refine At.thn (hK4 _ _ ?_); clear hK4
    refine Tri.cv (Cv.wk (.cons (t := 4) (Has.t rfl) .nil)) ?_
    refine Tri.ret ?_
    refine At.thr ?_
    refine rt1 (.inl rfl) Try.results107 rfl (.cell rfl (i := 0) rfl ty44 rfl ?_ .nil)
    all_goals (exact isZ_eq (show (1 : Int) = one i k by unfold one; rw [if_pos (by omega)]))
  · have hc1 := BP.f hc1
    refine Tri.skip ?_
    refine At.thn (hK2 _ _ ?_); clear hK2
    refine Tri.cv (Cv.wk (.cons (t := 4) (Has.t rfl) .nil)) ?_
    refine Tri.seq fun K5 hK5 => ?_
    refine Tri.region ?_
    refine st (OK1.build [isB false, SlM isU []] pl44 zero44 (fun _ _ => ⟨rfl, nilM _ _, trivial⟩) .nil (Z'' := [_, _]) rfl) rfl ?_
    refine Ops.store (Has.t rfl) (Has.t rfl) (i := 0) rfl ty44 rfl rfl (Ss' := [_, _]) rfl (M' := [(some _, cellM [_, _])]) rfl ?_
    refine nl ?_
    refine At.thn (hK5 _ _ ?_); clear hK5
    refine Tri.ret ?_
    refine rt1 (.inl rfl) Try.results107 rfl (.cell rfl (i := 0) rfl ty44 rfl ?_ .nil)
    all_goals (exact isZ0.trans (isZ_eq (show (0 : Int) = one i k by unfold one; rw [if_neg (by omega)])))
set_option maxHeartbeats 4000000 in
theorem zmat_Identity {n : Nat} (hn : n ≤ 64) : Ctr Try.prog 55 [isI (n : Int)] (isTup [isMz n n (oneL n), isI 0]) := by
  refine Ctr.intro Try.func55 rfl (by kernel_rfl) Try.ntmps55 rfl fun w0 F0 => ?_
  refine Tri.cv (Cv.wk (.cons (t := 0) (Has.t rfl) .nil)) ?_
  refine Tri.fact (Has.rngI (Has.t (t := 0) rfl)) fun lt0 => ?_
  refine Tri.seq fun K1 hK1 => ?_
  refine Tri.region ?_
  refine Ops.alloc [isI 0, isI 0, nilS] zero24 (fun _ _ => ⟨⟨rfl, by decide, by decide⟩, ⟨rfl, by decide, by decide⟩, rfl, trivial⟩) rfl fun b1 => ?_
  refine st (OK1.as (Has.cI 0 rfl)) rfl ?_
  refine nl ?_
  refine At.thn (hK1 _ _ ?_); clear hK1
  refine Tri.seq fun K2 hK2 => ?_
  refine Tri.seq fun K3 hK3 => ?_
  refine Tri.region ?_
  refine st (OK1.mv (Has.t rfl)) rfl ?_
  refine st (OK1.eq (OK1.call (zmat_side) (.cons (Has.t rfl) .nil)) ((show isB _ = isB true from isB_eq (by simp; omega)))) rfl ?_
  refine st (OK1.not (Has.t rfl)) rfl ?_
  refine nl ?_
  refine At.thn (hK3 _ _ ?_); clear hK3
  refine Tri.cond (Has.t rfl) (fun hc1 => ?_) (fun hc1 => ?_)
  · have hc1 := BP.t hc1
    exfalso; simp at hc1
  · have hc1 := BP.f hc1
    refine Tri.skip ?_
    refine At.thn (hK2 _ _ ?_); clear hK2
    refine Tri.seq fun K4 hK4 => ?_
    refine Tri.region ?_
    refine st (OK1.mv (Has.t rfl)) rfl ?_
    refine st (OK1.mv (Has.t rfl)) rfl ?_
    refine st (OK1.call (zmat_made (f := fun i k => nz (one i k)) hn hn (fun i k _ _ => by rw [val_words]; exact Nat.le_trans (nw_01 i k) (by decide))) (.cons (Has.t rfl) (.cons (Has.t rfl) (.cons (Has.fn (fun p => zmat_Identity_1)) .nil)))) rfl ?_
    refine Ops.store (Has.t rfl) (Has.t rfl) (i := 0) rfl ty24 rfl rfl (Ss' := [_, _, _]) rfl (M' := [(some _, cellM [_, _, _])]) rfl ?_
    refine st (OK1.as (Has.cI 0 rfl)) rfl ?_
    refine nl ?_
    refine At.thn (hK4 _ _ ?_); clear hK4
    refine Tri.cv (Cv.wk (.cons (t := 2) (Has.t rfl) (.cons (t := 3) (Has.t rfl) .nil))) ?_
    refine Tri.ret ?_
    refine rtN (.inl rfl) Try.results55 rfl rfl (.cell rfl (i := 0) rfl ty24 rfl ?_ (.tmp (Has.t' rfl ?_) .nil))
    · exact isMz_eq (by rw [zvz one]; rfl)
    · rfl
set_option maxHeartbeats 4000000 in
theorem zmat_Add_1 {r0 r1 : Int} {C i k K : Nat} {xs ys : List (Bool × List Nat)} (hx : Bd (vals xs) K) (hy : Bd (vals ys) K) (hK : K ≤ 400000000) (hxm : xs.length ≤ 4096) (hp : i * C + k < xs.length) (hym : ys.length ≤ 4096) (hq : i * C + k < ys.length) : Ctr Try.prog 111 [isI (i : Int), isI (k : Int), ptM r0 (C : Int) xs, ptM r1 (C : Int) ys] (Flat (zc (nz (cf (vals xs) (i * C + k) + cf (vals ys) (i * C + k))))) := by
  refine Ctr.intro Try.func111 rfl (by kernel_rfl) Try.ntmps111 rfl fun w0 F0 => ?_
  refine Tri.cv (Cv.wk (.cons (t := 0) (Has.t rfl) (.cons (t := 1) (Has.t rfl) (.cons (t := 2) (Has.t rfl) (.cons (t := 3) (Has.t rfl) .nil))))) ?_
  refine Tri.fact (Has.rngI (Has.t (t := 0) rfl)) fun lt0 => ?_
  refine Tri.fact (Has.rngI (Has.t (t := 1) rfl)) fun lt1 => ?_
  have hxr := hx.raw (i * C + k)
  have hyr := hy.raw (i * C + k)
  refine Tri.seq fun K1 hK1 => ?_
  refine Tri.region ?_
  refine Ops.alloc [isB false, SlM isU []] zero44 (fun _ _ => ⟨rfl, nilM _ _, trivial⟩) rfl fun b1 => ?_
  refine nl ?_
  refine At.thn (hK1 _ _ ?_); clear hK1
  refine Tri.seq fun K2 hK2 => ?_
  refine Tri.dr ?_
  refine DrG.st (i := 0) [] rfl rfl rfl (by kernel_rfl) (OKG.o rfl (OK1.loadP (Has.t rfl) ty24 rfl (Ss' := [_, _, _]) rfl)) ?_
  refine DrG.st (i := 1) [] rfl rfl rfl (by kernel_rfl) (OKG.o rfl (OK1.mv (Has.t rfl))) ?_
  refine DrG.st (i := 2) [] rfl rfl rfl (by kernel_rfl) (OKG.o rfl (OK1.mv (Has.t rfl))) ?_
  refine DrG.st (i := 3) [7, 8, 9] rfl rfl rfl (by kernel_rfl) (OKG.o rfl (OK1.call (by first | exact zmat_get (i := i) (k := k) hxm hp | exact zmat_get (i := i) (k := k) hym hq) (.cons (Has.t rfl) (.cons (Has.t rfl) (.cons (Has.t rfl) .nil))))) ?_
  refine DrG.st (i := 4) [] rfl rfl rfl (by kernel_rfl) (OKG.o rfl (OK1.loadP (Has.t rfl) ty24 rfl (Ss' := [_, _, _]) rfl)) ?_
  refine DrG.st (i := 5) [] rfl rfl rfl (by kernel_rfl) (OKG.o rfl (OK1.mv (Has.t rfl))) ?_
  refine DrG.st (i := 6) [] rfl rfl rfl (by kernel_rfl) (OKG.o rfl (OK1.mv (Has.t rfl))) ?_
  refine DrG.fin (n := 7) mixed (by kernel_rfl) (by kernel_rfl) (by kernel_rfl) ?_
  refine Ops.cv (Cv.wk (.cons (t := 6) (Has.t rfl) (.cons (t := 10) (Has.t rfl) (.cons (t := 11) (Has.t rfl) (.cons (t := 12) (Has.t rfl) (.cons (t := 13) (Has.t rfl) .nil)))))) ?_
  refine st (OK1.call (by first | exact zmat_get (i := i) (k := k) hxm hp | exact zmat_get (i := i) (k := k) hym hq) (.cons (Has.t rfl) (.cons (Has.t rfl) (.cons (Has.t rfl) .nil)))) rfl ?_
  refine st (OK1.call (zint_Add (by omega) (by omega)) (.cons (Has.t rfl) (.cons (Has.t rfl) .nil))) rfl ?_
  refine Ops.store (Has.t rfl) (Has.t rfl) (i := 0) rfl ty44 rfl rfl (Ss' := [_, _]) rfl (M' := [(some _, cellM [_, _])]) rfl ?_
  refine nl ?_
  refine At.thn (hK2 _ _ ?_); clear hK2
  refine Tri.cv (Cv.wk (.cons (t := 6) (Has.t rfl) .nil)) ?_
  refine Tri.ret ?_
  refine rt1 (.inl rfl) Try.results111 rfl (.cell rfl (i := 0) rfl ty44 rfl ?_ .nil)
  all_goals (exact isZ_eq (by rw [cf_vals, cf_vals]))
set_option maxHeartbeats 4000000 in
theorem zmat_Add {n K : Nat} {xs ys : List (Bool × List Nat)} (hx : Bd (vals xs) K) (hy : Bd (vals ys) K) (hK : K ≤ 400000000) (hn : n ≤ 64) (hl : xs.length = n * n) (hyl : ys.length = n * n) : Ctr Try.prog 62 [isM (n : Int) (n : Int) xs, isM (n : Int) (n : Int) ys] (isTup [isMz n n (sumL n (vals xs) (vals ys)), isI 0]) := by
  refine Ctr.intro Try.func62 rfl (by kernel_rfl) Try.ntmps62 rfl fun w0 F0 => ?_
  refine Tri.cv (Cv.wk (.cons (t := 0) (Has.t rfl) (.cons (t := 1) (Has.t rfl) .nil))) ?_
  have hRC := side_le hn hn
  have hfa := formB_true hn hn hl
  have hfb := formB_true hn hn hyl
  refine Tri.seq fun K1 hK1 => ?_
  refine Tri.region ?_
  refine Ops.box (Has.t rfl) rfl fun b1 => ?_
  refine Ops.box (Has.t rfl) rfl fun b2 => ?_
  refine Ops.alloc [isI 0, isI 0, nilS] zero24 (fun _ _ => ⟨⟨rfl, by decide, by decide⟩, ⟨rfl, by decide, by decide⟩, rfl, trivial⟩) rfl fun b3 => ?_
  refine st (OK1.as (Has.cI 0 rfl)) rfl ?_
  refine nl ?_
  refine At.thn (hK1 _ _ ?_); clear hK1
  refine Tri.seq fun K2 hK2 => ?_
  refine Tri.seq fun K3 hK3 => ?_
  refine Tri.region ?_
  refine st (OK1.load (Has.t rfl) (i := 2) rfl ty24 rfl (Ss' := [_, _, _]) rfl) rfl ?_
  refine st (OK1.load (Has.t rfl) (i := 1) rfl ty24 rfl (Ss' := [_, _, _]) rfl) rfl ?_
  refine st (OK1.eq (OK1.call (zmat_alike) (.cons (Has.t rfl) (.cons (Has.t rfl) .nil))) ((show isB _ = isB true from isB_eq (by rw [hfa, hfb]; simp)))) rfl ?_
  refine st (OK1.not (Has.t rfl)) rfl ?_
  refine nl ?_
  refine At.thn (hK3 _ _ ?_); clear hK3
  refine Tri.cv (Cv.wk (.cons (t := 2) (Has.t rfl) (.cons (t := 3) (Has.t rfl) (.cons (t := 4) (Has.t rfl) (.cons (t := 5) (Has.t rfl) (.cons (t := 9) (Has.t rfl) .nil)))))) ?_
  refine Tri.cond (Has.t rfl) (fun hc1 => ?_) (fun hc1 => ?_)
  · have hc1 := BP.t hc1
    exfalso; simp at hc1
  · have hc1 := BP.f hc1
    refine Tri.skip ?_
    refine At.thn (hK2 _ _ ?_); clear hK2
    refine Tri.seq fun K4 hK4 => ?_
    refine Tri.region ?_
    refine st (OK1.fieldAddr (Has.t rfl) fld24_0 ty3) rfl ?_
    refine st (OK1.load1 (Has.t rfl) (i := 2) rfl ty3 rfl) rfl ?_
    refine st (OK1.fieldAddr (Has.t rfl) fld24_1 ty3) rfl ?_
    refine st (OK1.load1 (Has.t rfl) (i := 2) rfl ty3 rfl) rfl ?_
    refine Ops.cv (Cv.freezeBox (t := 2) (i := 2) rfl rfl rfl) ?_
    refine Ops.memEq (M' := [_, _]) rfl ?_
    refine Ops.cv (Cv.wk (.cons (t := 2) (Has.t rfl) (.cons (t := 3) (Has.t rfl) (.cons (t := 4) (Has.t rfl) (.cons (t := 5) (Has.t rfl) (.cons (t := 9) (Has.t rfl) (.cons (t := 12) (Has.t rfl) (.cons (t := 14) (Has.t rfl) .nil)))))))) ?_
    refine Ops.cv (Cv.freezeBox (t := 3) (i := 1) rfl rfl rfl) ?_
    refine Ops.memEq (M' := [_]) rfl ?_
    refine Ops.cv (Cv.wk (.cons (t := 2) (Has.t rfl) (.cons (t := 3) (Has.t rfl) (.cons (t := 4) (Has.t rfl) (.cons (t := 5) (Has.t rfl) (.cons (t := 9) (Has.t rfl) (.cons (t := 12) (Has.t rfl) (.cons (t := 14) (Has.t rfl) .nil)))))))) ?_
    refine st (OK1.makeFn (ι := PI n n) (As := fun p => [isI (p.1.1 : Int), isI (p.1.2 : Int)]) (R := fun p => Flat (zc (nz (cf (vals xs) (p.1.1 * n + p.1.2) + cf (vals ys) (p.1.1 * n + p.1.2))))) (fun p => zmat_Add_1 hx hy hK (by omega) (by have := place_lt p.2.1 p.2.2; omega) (by omega) (by have := place_lt p.2.1 p.2.2; omega)) .nil (.cons (Has.t rfl) (.cons (Has.t rfl) .nil))) rfl ?_
    refine st (OK1.call (zmat_made (f := fun i k => nz (cf (vals xs) (i * n + k) + cf (vals ys) (i * n + k))) hn hn (fun i k _ _ => by rw [val_words]; have h1 := nz_add (cf (vals xs) (i * n + k)) (cf (vals ys) (i * n + k)); have h2 := hx (i * n + k); have h3 := hy (i * n + k); omega)) (.cons (Has.t rfl) (.cons (Has.t rfl) (.cons (Has.t rfl) .nil)))) rfl ?_
    refine Ops.store (Has.t rfl) (Has.t rfl) (i := 0) rfl ty24 rfl rfl (Ss' := [_, _, _]) rfl (M' := [(some _, cellM [_, _, _])]) rfl ?_
    refine st (OK1.as (Has.cI 0 rfl)) rfl ?_
    refine nl ?_
    refine At.thn (hK4 _ _ ?_); clear hK4
    refine Tri.cv (Cv.wk (.cons (t := 4) (Has.t rfl) (.cons (t := 5) (Has.t rfl) .nil))) ?_
    refine Tri.ret ?_
    refine rtN (.inl rfl) Try.results62 rfl rfl (.cell rfl (i := 0) rfl ty24 rfl ?_ (.tmp (Has.t' rfl ?_) .nil))
    · exact isMz_eq (by rw [zvz fun i k => cf (vals xs) (i * n + k) + cf (vals ys) (i * n + k)]; rfl)
    · rfl
theorem zM_nil {b : Nat} {x : Int} {M : Mem} (h : x = 0) : ((some b, cellM [isB false, SlM isU []]) :: M : Mem) = zM b x :: M := by
  subst h
  show _ = (some b, cellM [isB (decide ((0 : Int) < 0)), SlM isU (words (0 : Int).natAbs)]) :: M
  rw [Int.natAbs_zero, words_zero]; rfl
set_option maxHeartbeats 4000000 in
theorem zchar_square {r c : Int} {xs : List (Bool × List Nat)} : Ctr Try.prog 52 [isM r c xs] (isB (formB r c xs.length && decide (r = c))) := by
  refine Ctr.intro Try.func52 rfl (by kernel_rfl) Try.ntmps52 rfl fun w0 F0 => ?_
  refine Tri.cv (Cv.wk (.cons (t := 0) (Has.t rfl) .nil)) ?_
  refine Tri.seq fun K1 hK1 => ?_
  refine Tri.region ?_
  refine Ops.box (Has.t rfl) rfl fun b1 => ?_
  refine st (OK1.as (Has.cB false)) rfl ?_
  refine nl ?_
  refine At.thn (hK1 _ _ ?_); clear hK1
  refine Tri.seq fun K2 hK2 => ?_
  refine Tri.region ?_
  refine st (OK1.load (Has.t rfl) (i := 0) rfl ty24 rfl (Ss' := [_, _, _]) rfl) rfl ?_
  refine st (OK1.call (zmat_Formed) (.cons (Has.t rfl) .nil)) rfl ?_
  refine st (OK1.mv (Has.t rfl)) rfl ?_
  refine stT rfl rfl (fun hg => have hg' := BP.t hg; OK1.fieldAddr (Has.t rfl) fld24_0 ty3) rfl ?_
  refine stT rfl rfl (fun hg => have hg' := BP.t hg; OK1.load1 (Has.g rfl hg) (i := 0) rfl ty3 rfl) rfl ?_
  refine stT rfl rfl (fun hg => have hg' := BP.t hg; OK1.fieldAddr (Has.t rfl) fld24_1 ty3) rfl ?_
  refine stT rfl rfl (fun hg => have hg' := BP.t hg; OK1.load1 (Has.g rfl hg) (i := 0) rfl ty3 rfl) rfl ?_
  refine stT rfl rfl (fun hg => have hg' := BP.t hg; OK1.eqI (Has.g rfl hg) (Has.g rfl hg)) rfl ?_
  refine st (OK1.pickAnd (Has.t rfl) (fun h => Has.g rfl h)) rfl ?_
  refine st (OK1.as (Has.t rfl)) rfl ?_
  refine nl ?_
  refine At.thn (hK2 _ _ ?_); clear hK2
  refine Tri.cv (Cv.wk (.cons (t := 2) (Has.t rfl) .nil)) ?_
  refine Tri.ret ?_
  refine rt1 (.inl rfl) Try.results52 rfl (.tmp (Has.t' rfl ?_) .nil)
  all_goals (rfl)
set_option maxHeartbeats 4000000 in
theorem zchar_must {r c e : Int} {xs : List (Bool × List Nat)} : Ctr Try.prog 54 [isM r c xs, isI e] (isM r c xs) := by
  refine Ctr.intro Try.func54 rfl (by kernel_rfl) Try.ntmps54 rfl fun w0 F0 => ?_
  refine Tri.cv (Cv.wk (.cons (t := 0) (Has.t rfl) (.cons (t := 1) (Has.t rfl) .nil))) ?_
  refine Tri.fact (Has.rngI (Has.t (t := 1) rfl)) fun lt1 => ?_
  refine Tri.seq fun K1 hK1 => ?_
  refine Tri.region ?_
  refine Ops.box (Has.t rfl) rfl fun b1 => ?_
  refine Ops.alloc [isI 0, isI 0, nilS] zero24 (fun _ _ => ⟨⟨rfl, by decide, by decide⟩, ⟨rfl, by decide, by decide⟩, rfl, trivial⟩) rfl fun b2 => ?_
  refine nl ?_
  refine At.thn (hK1 _ _ ?_); clear hK1
  refine Tri.seq fun K2 hK2 => ?_
  refine Tri.region ?_
  refine st (OK1.load (Has.t rfl) (i := 1) rfl ty24 rfl (Ss' := [_, _, _]) rfl) rfl ?_
  refine Ops.store (Has.t rfl) (Has.t rfl) (i := 0) rfl ty24 rfl rfl (Ss' := [_, _, _]) rfl (M' := [(some _, cellM [_, _, _]), _]) rfl ?_
  refine nl ?_
  refine At.thn (hK2 _ _ ?_); clear hK2
  refine Tri.ret ?_
  refine rt1 (.inl rfl) Try.results54 rfl (.cell rfl (i := 0) rfl ty24 rfl ?_ .nil)
  all_goals (rfl)
set_option maxHeartbeats 4000000 in
theorem zchar_trace {n K : Nat} {xs : List (Bool × List Nat)} (hx : Bd (vals xs) K) (hK : K ≤ 400000000) (hn : n ≤ 64) (hl : xs.length = n * n) : Ctr Try.prog 69 [isM (n : Int) (n : Int) xs] (isZ (trcL n (vals xs) n)) := by
  refine Ctr.intro Try.func69 rfl (by kernel_rfl) Try.ntmps69 rfl fun w0 F0 => ?_
  refine Tri.cv (Cv.wk (.cons (t := 0) (Has.t rfl) .nil)) ?_
  have hRC := side_le hn hn
  have htn : ∀ k, (List.length (words (trcL n (vals xs) k).natAbs)) ≤ K + k := fun k => sm_nw (fun i => hx _) k
  refine Tri.seq fun K1 hK1 => ?_
  refine Tri.region ?_
  refine Ops.box (Has.t rfl) rfl fun b1 => ?_
  refine Ops.alloc [isB false, SlM isU []] zero44 (fun _ _ => ⟨rfl, nilM _ _, trivial⟩) rfl fun b2 => ?_
  refine nl ?_
  refine At.thn (hK1 _ _ ?_); clear hK1
  refine Tri.seq fun K2 hK2 => ?_
  refine Tri.region ?_
  refine Ops.alloc [isB false, SlM isU []] zero44 (fun _ _ => ⟨rfl, nilM _ _, trivial⟩) rfl fun b3 => ?_
  refine nl ?_
  refine At.thn (hK2 _ _ ?_); clear hK2
  refine Tri.seq fun K3 hK3 => ?_
  refine Tri.seq fun K4 hK4 => ?_
  refine Tri.region ?_
  refine st (OK1.fieldAddr (Has.t rfl) fld24_0 ty3) rfl ?_
  refine st (OK1.load1 (Has.t rfl) (i := 2) rfl ty3 rfl) rfl ?_
  refine st (OK1.mv (Has.cI 0 rfl)) rfl ?_
  refine nl ?_
  refine At.thn (hK4 _ _ ?_); clear hK4
  refine Tri.block ?_
  refine Tri.loopF [1, 2, 3, 6] (fun (z : { k : Nat // k ≤ n }) => match z with | ⟨k, hk⟩ => [(7, isI (k : Int))]) (fun M => fun (z : { k : Nat // k ≤ n }) => match z with | ⟨k, hk⟩ => [zM b3 (trcL n (vals xs) k), (some b2, cellM [isB false, SlM isU []]), (some b1, cellM [isI (n : Int), isI (n : Int), SlK 2 zc xs])]) (fun (z : { k : Nat // k ≤ n }) => match z with | ⟨k, hk⟩ => n - k) (⟨0, Nat.zero_le _⟩) (Cv.mem (.cons (t := 7) (Has.t' rfl ?_) (.cons (t := 1) (Has.t rfl) (.cons (t := 2) (Has.t rfl) (.cons (t := 3) (Has.t rfl) (.cons (t := 6) (Has.t rfl) .nil))))) ?_) ?_
  · rfl
  · exact zM_nil rfl
  rintro ⟨k, hk⟩ K5 hK5
  refine Tri.cv (Cv.wk (.cons (t := 7) (Has.t rfl) (.cons (t := 1) (Has.t rfl) (.cons (t := 2) (Has.t rfl) (.cons (t := 3) (Has.t rfl) (.cons (t := 6) (Has.t rfl) .nil)))))) ?_
  refine Tri.memEq (M' := [zM b3 (trcL n (vals xs) k), (some b2, cellM [isB false, SlM isU []]), (some b1, cellM [isI (n : Int), isI (n : Int), SlK 2 zc xs])]) rfl ?_
  have htk := htn k
  refine Tri.seq fun K6 hK6 => ?_
  refine Tri.region ?_
  refine st (OK1.ltI (Has.t rfl) (Has.t rfl)) rfl ?_
  refine nl ?_
  refine At.thn (hK6 _ _ ?_); clear hK6
  refine Tri.seq fun K7 hK7 => ?_
  refine Tri.cond (Has.t rfl) (fun hc1 => ?_) (fun hc1 => ?_)
  · have hc1 := BP.t hc1
    have hpl := place_lt (show k < n by omega) (show k < n by omega)
    have hxk := hx (k * n + k)
    refine Tri.skip ?_
    refine At.thn (hK7 _ _ ?_); clear hK7
    refine Tri.seq fun K8 hK8 => ?_
    refine Tri.block ?_
    refine Tri.seq fun K9 hK9 => ?_
    refine Tri.region ?_
    refine st (OK1.mv (Has.t rfl)) rfl ?_
    refine st (OK1.as (Has.t rfl)) rfl ?_
    refine nl ?_
    refine At.thn (hK9 _ _ ?_); clear hK9
    refine Tri.dr ?_
    refine DrG.st (i := 0) [] rfl rfl rfl (by kernel_rfl) (OKG.o rfl (OK1.load (Has.t rfl) (i := 0) rfl ty44 rfl (Ss' := [_, _]) rfl)) ?_
    refine DrG.st (i := 1) [] rfl rfl rfl (by kernel_rfl) (OKG.o rfl (OK1.load (Has.t rfl) (i := 2) rfl ty24 rfl (Ss' := [_, _, _]) rfl)) ?_
    refine DrG.st (i := 2) [] rfl rfl rfl (by kernel_rfl) (OKG.o rfl (OK1.mv (Has.t rfl))) ?_
    refine DrG.st (i := 3) [] rfl rfl rfl (by kernel_rfl) (OKG.o rfl (OK1.mv (Has.t rfl))) ?_
    refine DrG.st (i := 4) [11, 12, 13] rfl rfl rfl (by kernel_rfl) (OKG.o rfl (OK1.call (zmat_At (i := k) (k := k) hx (by omega) hn hn hl (by omega) (by omega)) (.cons (Has.t rfl) (.cons (Has.t rfl) (.cons (Has.t rfl) .nil))))) ?_
    refine DrG.fin (n := 5) mixed (by kernel_rfl) (by kernel_rfl) (by kernel_rfl) ?_
    refine Ops.cv (Cv.wk (.cons (t := 1) (Has.t rfl) (.cons (t := 2) (Has.t rfl) (.cons (t := 3) (Has.t rfl) (.cons (t := 6) (Has.t rfl) (.cons (t := 7) (Has.t rfl) (.cons (t := 8) (Has.t rfl) (.cons (t := 9) (Has.t rfl) (.cons (t := 4) (Has.t rfl) (.cons (t := 10) (Has.t rfl) (.cons (t := 11) (Has.t rfl) (.cons (t := 12) (Has.t rfl) (.cons (t := 13) (Has.t rfl) (.cons (t := 14) (Has.t rfl) .nil)))))))))))))) ?_
    refine st (OK1.eq (OK1.call (zint_Add (by rw [val_words]; omega) (by rw [val_words]; omega)) (.cons (Has.t rfl) (.cons (Has.t rfl) .nil))) ((show isZ _ = isZ (trcL n (vals xs) (k + 1)) from isZ_eq (by simp only [zv_nf, zv_nz]; rfl)))) rfl ?_
    refine Ops.store (Has.t rfl) (Has.t rfl) (i := 0) rfl ty44 rfl rfl (Ss' := [_, _]) rfl (M' := [(some _, cellM [_, _]), _, _]) rfl ?_
    refine nl ?_
    refine At.bln ?_
    refine At.thn (hK8 _ _ ?_); clear hK8
    refine Tri.region ?_
    refine st (OK1.addI (Has.t rfl) (Has.cI 1 rfl) (by first | omega | assumption) (by first | omega | assumption)) rfl ?_
    refine st (OK1.mv (Has.t rfl)) rfl ?_
    refine nl ?_
    refine At.thn ?_
    refine hK5 (⟨k + 1, by omega⟩) _ _ ?_ (Cv.mem (.cons (t := 7) (Has.t' rfl ?_) (.cons (t := 1) (Has.t rfl) (.cons (t := 2) (Has.t rfl) (.cons (t := 3) (Has.t rfl) (.cons (t := 6) (Has.t rfl) .nil))))) ?_)
    · show n - (k + 1) < n - k; omega
    · exact isI_eq (by omega)
    · rfl
  · have hc1 := BP.f hc1
    skip
    refine Tri.exit ?_
    refine At.the ?_
    refine At.the ?_
    refine At.blh ?_
    refine At.thn (hK3 _ _ ?_); clear hK3
    refine Tri.seq fun K10 hK10 => ?_
    refine Tri.region ?_
    refine st (OK1.load (Has.t rfl) (i := 0) rfl ty44 rfl (Ss' := [_, _]) rfl) rfl ?_
    refine Ops.store (Has.t rfl) (Has.t rfl) (i := 1) rfl ty44 rfl rfl (Ss' := [_, _]) rfl (M' := [_, (some _, cellM [_, _]), _]) rfl ?_
    refine nl ?_
    refine At.thn (hK10 _ _ ?_); clear hK10
    refine Tri.cv (Cv.wk (.cons (t := 2) (Has.t rfl) .nil)) ?_
    refine Tri.ret ?_
    refine rt1 (.inl rfl) Try.results69 rfl (.cell rfl (i := 1) rfl ty44 rfl ?_ .nil)
    all_goals (rw [show k = n by omega])
end Go.Proofs.Ytgkbekcpmbjbdaa
/- Rows that are turned into Hermite's form: their memory. -/
namespace Go.En
open Go.RowKit Go.Nt Go.Pz Go.Mz
set_option linter.unusedVariables false
section
variable {E : Env} {P : Program} {Γ : Ctx} {M M' : Mem}
end
section
variable {E : Env} {P : Program} {Γ : Ctx} {M : Mem} {ty : TypeId} {pos : String} {after : Array Edge} {gd : Option (Nat × Bool)} {d : Option Tmp}
  {ops : Array Oper} {Q : Exit → Act → World → Prop} {rest : List Oper} {T T' : TypeId} {x y : Operand} {α : Type} {fk : α → List VP} {xs : List α} {k : Nat}
end
theorem isPl_eq {L L' : List Int} (h : L = L') : isP L = isP L' := h ▸ rfl
end Go.En
/- Contracts: what becomes noughts. -/
namespace Go.Proofs.Ytgkbekcpmbjbdaa
open Go.En Go.RowKit
set_option linter.unusedVariables false
set_option maxRecDepth 10000
open Go.Nt
open Go.Pz
open Go.Mz
open Go.Hn
open Go.Hp
open Go.Dt
set_option maxHeartbeats 4000000 in
theorem zmat_Scale_1 {C i k K : Nat} {r0 : Int} {xs : List (Bool × List Nat)} {m : Bool} {ws : List Nat} (hx : Bd (vals xs) K) (hK : K ≤ 400000000) (hw : (List.length (words (val ws))) ≤ 1000) (hxm : xs.length ≤ 4096) (hp : i * C + k < xs.length) : Ctr Try.prog 112 [isI (i : Int), isI (k : Int), ptM r0 (C : Int) xs, PtrL [isB m, isWords ws]] (Flat (zc (nz (cf (vals xs) (i * C + k) * zv m ws)))) := by
  refine Ctr.intro Try.func112 rfl (by kernel_rfl) Try.ntmps112 rfl fun w0 F0 => ?_
  refine Tri.cv (Cv.wk (.cons (t := 0) (Has.t rfl) (.cons (t := 1) (Has.t rfl) (.cons (t := 2) (Has.t rfl) (.cons (t := 3) (Has.t rfl) .nil))))) ?_
  refine Tri.fact (Has.rngI (Has.t (t := 0) rfl)) fun lt0 => ?_
  refine Tri.fact (Has.rngI (Has.t (t := 1) rfl)) fun lt1 => ?_
  have hxr := hx.raw (i * C + k)
  refine Tri.seq fun K1 hK1 => ?_
  refine Tri.region ?_
  refine Ops.alloc [isB false, SlM isU []] zero44 (fun _ _ => ⟨rfl, nilM _ _, trivial⟩) rfl fun b1 => ?_
  refine nl ?_
  refine At.thn (hK1 _ _ ?_); clear hK1
  refine Tri.seq fun K2 hK2 => ?_
  refine Tri.dr ?_
  refine DrG.st (i := 0) [] rfl rfl rfl (by kernel_rfl) (OKG.o rfl (OK1.loadP (Has.t rfl) ty24 rfl (Ss' := [_, _, _]) rfl)) ?_
  refine DrG.st (i := 1) [] rfl rfl rfl (by kernel_rfl) (OKG.o rfl (OK1.mv (Has.t rfl))) ?_
  refine DrG.st (i := 2) [] rfl rfl rfl (by kernel_rfl) (OKG.o rfl (OK1.mv (Has.t rfl))) ?_
  refine DrG.st (i := 3) [7, 8, 9] rfl rfl rfl (by kernel_rfl) (OKG.o rfl (OK1.call (zmat_get (i := i) (k := k) hxm hp) (.cons (Has.t rfl) (.cons (Has.t rfl) (.cons (Has.t rfl) .nil))))) ?_
  refine DrG.st (i := 4) [] rfl rfl rfl (by kernel_rfl) (OKG.o rfl (OK1.loadP (Has.t rfl) ty44 rfl (Ss' := [_, _]) rfl)) ?_
  refine DrG.fin (n := 5) mixed (by kernel_rfl) (by kernel_rfl) (by kernel_rfl) ?_
  refine Ops.cv (Cv.wk (.cons (t := 6) (Has.t rfl) (.cons (t := 10) (Has.t rfl) (.cons (t := 11) (Has.t rfl) .nil)))) ?_
  refine st (OK1.call (zint_Mul (by omega) (by omega)) (.cons (Has.t rfl) (.cons (Has.t rfl) .nil))) rfl ?_
  refine Ops.store (Has.t rfl) (Has.t rfl) (i := 0) rfl ty44 rfl rfl (Ss' := [_, _]) rfl (M' := [(some _, cellM [_, _])]) rfl ?_
  refine nl ?_
  refine At.thn (hK2 _ _ ?_); clear hK2
  refine Tri.ret ?_
  refine rt1 (.inl rfl) Try.results112 rfl (.cell rfl (i := 0) rfl ty44 rfl ?_ .nil)
  all_goals (exact isZ_eq (by rw [cf_vals]))
set_option maxHeartbeats 4000000 in
theorem zmat_Scale {R C K : Nat} {xs : List (Bool × List Nat)} {m : Bool} {ws : List Nat} (hx : Bd (vals xs) K) (hK : K ≤ 400000000) (hw : (List.length (words (val ws))) ≤ 1000) (hR : R ≤ 64) (hC : C ≤ 64) (hl : xs.length = R * C) : Ctr Try.prog 63 [isM (R : Int) (C : Int) xs, Flat [isB m, isWords ws]] (isTup [isMz R C (sclL R C (zv m ws) (vals xs)), isI 0]) := by
  refine Ctr.intro Try.func63 rfl (by kernel_rfl) Try.ntmps63 rfl fun w0 F0 => ?_
  refine Tri.cv (Cv.wk (.cons (t := 0) (Has.t rfl) (.cons (t := 1) (Has.t rfl) .nil))) ?_
  refine Tri.fact (Has.okZ (Has.t (t := 1) rfl)) fun okz1 => ?_
  have hRC := side_le hR hC
  have hfo := formB_true hR hC hl
  refine Tri.seq fun K1 hK1 => ?_
  refine Tri.region ?_
  refine Ops.box (Has.t rfl) rfl fun b1 => ?_
  refine Ops.box (Has.t rfl) rfl fun b2 => ?_
  refine Ops.alloc [isI 0, isI 0, nilS] zero24 (fun _ _ => ⟨⟨rfl, by decide, by decide⟩, ⟨rfl, by decide, by decide⟩, rfl, trivial⟩) rfl fun b3 => ?_
  refine st (OK1.as (Has.cI 0 rfl)) rfl ?_
  refine nl ?_
  refine At.thn (hK1 _ _ ?_); clear hK1
  refine Tri.seq fun K2 hK2 => ?_
  refine Tri.seq fun K3 hK3 => ?_
  refine Tri.region ?_
  refine st (OK1.load (Has.t rfl) (i := 2) rfl ty24 rfl (Ss' := [_, _, _]) rfl) rfl ?_
  refine st (OK1.eq (OK1.call (zmat_Formed) (.cons (Has.t rfl) .nil)) ((show isB _ = isB true from isB_eq (hfo)))) rfl ?_
  refine st (OK1.not (Has.t rfl)) rfl ?_
  refine nl ?_
  refine At.thn (hK3 _ _ ?_); clear hK3
  refine Tri.cond (Has.t rfl) (fun hc1 => ?_) (fun hc1 => ?_)
  · have hc1 := BP.t hc1
    exfalso; simp at hc1
  · have hc1 := BP.f hc1
    refine Tri.skip ?_
    refine At.thn (hK2 _ _ ?_); clear hK2
    refine Tri.cv (Cv.wk (.cons (t := 2) (Has.t rfl) (.cons (t := 3) (Has.t rfl) (.cons (t := 4) (Has.t rfl) (.cons (t := 5) (Has.t rfl) .nil))))) ?_
    refine Tri.seq fun K4 hK4 => ?_
    refine Tri.region ?_
    refine st (OK1.fieldAddr (Has.t rfl) fld24_0 ty3) rfl ?_
    refine st (OK1.load1 (Has.t rfl) (i := 2) rfl ty3 rfl) rfl ?_
    refine st (OK1.fieldAddr (Has.t rfl) fld24_1 ty3) rfl ?_
    refine st (OK1.load1 (Has.t rfl) (i := 2) rfl ty3 rfl) rfl ?_
    refine Ops.cv (Cv.freezeBox (t := 2) (i := 2) rfl rfl rfl) ?_
    refine Ops.memEq (M' := [_, _]) rfl ?_
    refine Ops.cv (Cv.wk (.cons (t := 2) (Has.t rfl) (.cons (t := 3) (Has.t rfl) (.cons (t := 4) (Has.t rfl) (.cons (t := 5) (Has.t rfl) (.cons (t := 11) (Has.t rfl) (.cons (t := 13) (Has.t rfl) .nil))))))) ?_
    refine Ops.cv (Cv.freezeBox (t := 3) (i := 1) rfl rfl rfl) ?_
    refine Ops.memEq (M' := [_]) rfl ?_
    refine Ops.cv (Cv.wk (.cons (t := 2) (Has.t rfl) (.cons (t := 3) (Has.t rfl) (.cons (t := 4) (Has.t rfl) (.cons (t := 5) (Has.t rfl) (.cons (t := 11) (Has.t rfl) (.cons (t := 13) (Has.t rfl) .nil))))))) ?_
    refine st (OK1.makeFn (ι := PI R C) (As := fun p => [isI (p.1.1 : Int), isI (p.1.2 : Int)]) (R := fun p => Flat (zc (nz (cf (vals xs) (p.1.1 * C + p.1.2) * zv m ws)))) (fun p => zmat_Scale_1 hx hK hw (by omega) (by have := place_lt p.2.1 p.2.2; omega)) .nil (.cons (Has.t rfl) (.cons (Has.t rfl) .nil))) rfl ?_
    refine st (OK1.call (zmat_made (f := fun i k => nz (cf (vals xs) (i * C + k) * zv m ws)) hR hC (fun i k _ _ => by rw [val_words]; have h1 := nz_mul (cf (vals xs) (i * C + k)) (zv m ws); have h2 := hx (i * C + k); have h3 := zv_nw m ws; omega)) (.cons (Has.t rfl) (.cons (Has.t rfl) (.cons (Has.t rfl) .nil)))) rfl ?_
    refine Ops.store (Has.t rfl) (Has.t rfl) (i := 0) rfl ty24 rfl rfl (Ss' := [_, _, _]) rfl (M' := [(some _, cellM [_, _, _])]) rfl ?_
    refine st (OK1.as (Has.cI 0 rfl)) rfl ?_
    refine nl ?_
    refine At.thn (hK4 _ _ ?_); clear hK4
    refine Tri.cv (Cv.wk (.cons (t := 4) (Has.t rfl) (.cons (t := 5) (Has.t rfl) .nil))) ?_
    refine Tri.ret ?_
    refine rtN (.inl rfl) Try.results63 rfl rfl (.cell rfl (i := 0) rfl ty24 rfl ?_ (.tmp (Has.t' rfl ?_) .nil))
    · exact isMz_eq (by rw [zvz fun i k => cf (vals xs) (i * C + k) * zv m ws]; rfl)
    · rfl
end Go.Proofs.Ytgkbekcpmbjbdaa
/- Contracts: polynomials over the whole numbers: their lists. -/
namespace Go.Proofs.Ytgkbekcpmbjbdaa
open Go.En Go.RowKit
set_option linter.unusedVariables false
set_option maxRecDepth 10000
open Go.Nt
open Go.Pz
set_option maxHeartbeats 4000000 in
theorem zpoly_at {xs : List (Bool × List Nat)} {i : Nat} : Ctr Try.prog 140 [SlK 2 zc xs, isI (i : Int)] (Flat (zc (xs.getD i (false, [])))) := by
  refine Ctr.intro Try.func140 rfl (by kernel_rfl) Try.ntmps140 rfl fun w0 F0 => ?_
  refine Tri.cv (Cv.wk (.cons (t := 0) (Has.t rfl) (.cons (t := 1) (Has.t rfl) .nil))) ?_
  refine Tri.fact (Has.lenLt (Has.t (t := 0) rfl)) fun lt0 => ?_
  refine Tri.fact (Has.rngI (Has.t (t := 1) rfl)) fun lt1 => ?_
  refine Tri.seq fun K1 hK1 => ?_
  refine Tri.region ?_
  refine Ops.alloc [isB false, SlM isU []] zero44 (fun _ _ => ⟨rfl, nilM _ _, trivial⟩) rfl fun b1 => ?_
  refine nl ?_
  refine At.thn (hK1 _ _ ?_); clear hK1
  refine Tri.seq fun K2 hK2 => ?_
  refine Tri.seq fun K3 hK3 => ?_
  refine Tri.region ?_
  refine st (OK1.mv (Has.t rfl)) rfl ?_
  refine st (OK1.mv (Has.t rfl)) rfl ?_
  refine st (OK1.len sl34 (Has.t rfl)) rfl ?_
  refine st (OK1.ltI (Has.t rfl) (Has.t rfl)) rfl ?_
  refine nl ?_
  refine At.thn (hK3 _ _ ?_); clear hK3
  refine Tri.cond (Has.t rfl) (fun hc1 => ?_) (fun hc1 => ?_)
  · have hc1 := BP.t hc1
    refine Tri.seq fun K4 hK4 => ?_
    refine Tri.region ?_
    refine st (OK1.mv (Has.t rfl)) rfl ?_
    refine st (OK1.mv (Has.t rfl)) rfl ?_
    refine st (OK1.ixK sl34 ty44 (Has.t rfl) (Has.t rfl) zc_len ⟨by omega, by omega⟩ (getD_some (d := (false, [])) (by first | omega | (simp only [Int.toNat_natCast, List.length_set]; omega)))) rfl ?_
    refine st (OK1.loadP (Has.t rfl) ty44 rfl (Ss' := [_, _]) rfl) rfl ?_
    refine Ops.store (Has.t rfl) (Has.t rfl) (i := 0) rfl ty44 rfl rfl (Ss' := [_, _]) rfl (M' := [(some _, cellM [_, _])]) rfl ?_
    refine nl ?_
    refine At.thn (hK4 _ _ ?_); clear hK4
    refine Tri.cv (Cv.wk (.cons (t := 4) (Has.t rfl) .nil)) ?_
    refine Tri.ret ?_
    refine At.thr ?_
    refine rt1 (.inl rfl) Try.results140 rfl (.cell rfl (i := 0) rfl ty44 rfl ?_ .nil)
    all_goals (rfl)
  · have hc1 := BP.f hc1
    refine Tri.skip ?_
    refine At.thn (hK2 _ _ ?_); clear hK2
    refine Tri.cv (Cv.wk (.cons (t := 4) (Has.t rfl) .nil)) ?_
    refine Tri.seq fun K5 hK5 => ?_
    refine Tri.region ?_
    refine st (OK1.build [isB false, SlM isU []] pl44 zero44 (fun _ _ => ⟨rfl, nilM _ _, trivial⟩) .nil (Z'' := [_, _]) rfl) rfl ?_
    refine Ops.store (Has.t rfl) (Has.t rfl) (i := 0) rfl ty44 rfl rfl (Ss' := [_, _]) rfl (M' := [(some _, cellM [_, _])]) rfl ?_
    refine nl ?_
    refine At.thn (hK5 _ _ ?_); clear hK5
    refine Tri.ret ?_
    refine rt1 (.inl rfl) Try.results140 rfl (.cell rfl (i := 0) rfl ty44 rfl ?_ .nil)
    all_goals (exact congrArg Flat (show zc (false, []) = _ by rw [List.getD, List.getElem?_eq_none (by omega)]; rfl))
set_option maxHeartbeats 4000000 in
theorem zpoly_Norm {xs : List (Bool × List Nat)} {K : Nat} (hx : Bd (vals xs) K) (hK : K ≤ 4000000000) (hn : xs.length ≤ 1000000) : Ctr Try.prog 98 [SlK 2 zc xs] (isP (pnorm (vals xs))) := by
  refine Ctr.intro Try.func98 rfl (by kernel_rfl) Try.ntmps98 rfl fun w0 F0 => ?_
  refine Tri.cv (Cv.wk (.cons (t := 0) (Has.t rfl) .nil)) ?_
  refine Tri.fact (Has.lenLt (Has.t (t := 0) rfl)) fun lt0 => ?_
  refine Tri.seq fun K1 hK1 => ?_
  refine Tri.region ?_
  refine st (OK1.as (Has.cWK (k := 2) (fk := zc))) rfl ?_
  refine nl ?_
  refine At.thn (hK1 _ _ ?_); clear hK1
  refine Tri.seq fun K2 hK2 => ?_
  refine Tri.region ?_
  refine st (OK1.mv (Has.t rfl)) rfl ?_
  refine st (OK1.len sl34 (Has.t rfl)) rfl ?_
  refine st (OK1.as (Has.t rfl)) rfl ?_
  refine nl ?_
  refine At.thn (hK2 _ _ ?_); clear hK2
  refine Tri.seq fun K3 hK3 => ?_
  refine Tri.block ?_
  refine Tri.loopF [0, 2] (fun (z : { n : Nat // n ≤ xs.length ∧ ∀ i, n ≤ i → cf (vals xs) i = 0 }) => match z with | ⟨n, hI⟩ => [(3, isI (n : Int))]) (fun M => fun (z : { n : Nat // n ≤ xs.length ∧ ∀ i, n ≤ i → cf (vals xs) i = 0 }) => match z with | ⟨n, hI⟩ => M) (fun (z : { n : Nat // n ≤ xs.length ∧ ∀ i, n ≤ i → cf (vals xs) i = 0 }) => match z with | ⟨n, hI⟩ => n) (⟨xs.length, Nat.le_refl _, fun i hi => cf_high (by rw [vals_len]; exact hi)⟩) (Cv.mem (.cons (t := 3) (Has.t' rfl ?_) (.cons (t := 0) (Has.t rfl) (.cons (t := 2) (Has.t rfl) .nil))) ?_) ?_
  · rfl
  · rfl
  rintro ⟨n, hk, hz⟩ K4 hK4
  refine Tri.cv (Cv.wk (.cons (t := 3) (Has.t rfl) (.cons (t := 0) (Has.t rfl) (.cons (t := 2) (Has.t rfl) .nil)))) ?_
  have ek : ((n : Int) - 1).toNat = n - 1 := by omega
  refine Tri.seq fun K5 hK5 => ?_
  refine Tri.seq fun K6 hK6 => ?_
  refine Tri.region ?_
  refine st (OK1.mv (Has.t rfl)) rfl ?_
  refine st (OK1.gtI (Has.t rfl) (Has.cI 0 rfl)) rfl ?_
  refine st (OK1.mv (Has.t rfl)) rfl ?_
  refine stT rfl rfl (fun hg => have hg' := BP.t hg; OK1.mv (Has.t rfl)) rfl ?_
  refine stT rfl rfl (fun hg => have hg' := BP.t hg; OK1.mv (Has.t rfl)) rfl ?_
  refine stT rfl rfl (fun hg => have hg' := BP.t hg; OK1.subI (Has.g rfl hg) (Has.cI 1 rfl) (by first | omega | (have := hx.raw ((n : Int) - 1).toNat; omega)) (by first | omega | (have := hx.raw ((n : Int) - 1).toNat; omega))) rfl ?_
  refine stT rfl rfl (fun hg => have hg' := BP.t hg; OK1.ixK sl34 ty44 (Has.g rfl hg) (Has.g rfl hg) zc_len ⟨by omega, by omega⟩ (getD_some (d := (false, [])) (by first | omega | (simp only [Int.toNat_natCast, List.length_set]; omega)))) rfl ?_
  refine stT rfl rfl (fun hg => have hg' := BP.t hg; OK1.loadP (Has.g rfl hg) ty44 rfl (Ss' := [_, _]) rfl) rfl ?_
  refine stT rfl rfl (fun hg => have hg' := BP.t hg; OK1.call (zint_Sign (by first | omega | (have := hx.raw ((n : Int) - 1).toNat; omega))) (.cons (Has.g rfl hg) .nil)) rfl ?_
  refine stT rfl rfl (fun hg => have hg' := BP.t hg; OK1.eqI (Has.g rfl hg) (Has.cI 0 rfl)) rfl ?_
  refine st (OK1.pickAnd (Has.t rfl) (fun h => Has.g rfl h)) rfl ?_
  refine nl ?_
  refine At.thn (hK6 _ _ ?_); clear hK6
  refine Tri.cond (Has.t rfl) (fun hc1 => ?_) (fun hc1 => ?_)
  · have hc1 := BP.t hc1
    have HA1 := hc1
    refine Tri.skip ?_
    refine At.thn (hK5 _ _ ?_); clear hK5
    refine Tri.block ?_
    refine Tri.region ?_
    refine st (OK1.mv (Has.t rfl)) rfl ?_
    refine st (OK1.subI (Has.t rfl) (Has.cI 1 rfl) (by first | omega | assumption) (by first | omega | assumption)) rfl ?_
    refine st (OK1.as (Has.t rfl)) rfl ?_
    refine nl ?_
    refine At.bln ?_
    refine At.thn ?_
    refine hK4 (⟨n - 1, by omega, fun i hi => by rcases Nat.lt_or_ge i n with h | h; (have e : i = n - 1 := by omega); (have := (sgn_eq0 _).1 HA1.2; rw [← cf_vals, ek] at this; rw [e]; exact this); exact hz i h⟩) _ _ ?_ (Cv.mem (.cons (t := 3) (Has.t' rfl ?_) (.cons (t := 0) (Has.t rfl) (.cons (t := 2) (Has.t rfl) .nil))) ?_)
    · show n - 1 < n; omega
    · exact isI_eq (by omega)
    · rfl
  · have hc1 := BP.f hc1
    have HA2 := hc1
    refine Tri.exit ?_
    refine At.the ?_
    refine At.the ?_
    refine At.blh ?_
    refine At.thn (hK3 _ _ ?_); clear hK3
    refine Tri.cv (Cv.wk (.cons (t := 0) (Has.t rfl) (.cons (t := 2) (Has.t rfl) (.cons (t := 3) (Has.t rfl) .nil)))) ?_
    refine Tri.seq fun K7 hK7 => ?_
    refine Tri.region ?_
    refine Ops.cv (Cv.grow0K (α := Bool × List Nat) zc) ?_
    refine st (OK1.as (Has.cGr (α := Bool × List Nat))) rfl ?_
    refine nl ?_
    refine At.thn (hK7 _ _ ?_); clear hK7
    refine Tri.seq fun K8 hK8 => ?_
    refine Tri.seq fun K9 hK9 => ?_
    refine Tri.region ?_
    refine st (OK1.mv (Has.t rfl)) rfl ?_
    refine st (OK1.mv (Has.t rfl)) rfl ?_
    refine st (OK1.slHK sl34 ty44 zc_len (Has.t rfl) (Has.t rfl) ⟨by omega, by omega⟩) rfl ?_
    refine st (OK1.len sl34 (Has.t rfl)) rfl ?_
    refine st (OK1.mv (Has.cI 0 rfl)) rfl ?_
    refine nl ?_
    refine At.thn (hK9 _ _ ?_); clear hK9
    refine Tri.block ?_
    refine Tri.loopF [2, 24, 25] (fun (z : { z : Nat × Gr (Bool × List Nat) // z.1 ≤ n }) => match z with | ⟨(i, g), hI⟩ => [(26, isI (i : Int)), (4, isGr g (((vals xs).take i).map nz).length)]) (fun M => fun (z : { z : Nat × Gr (Bool × List Nat) // z.1 ≤ n }) => match z with | ⟨(i, g), hI⟩ => [grMK zc g (((vals xs).take i).map nz)]) (fun (z : { z : Nat × Gr (Bool × List Nat) // z.1 ≤ n }) => match z with | ⟨(i, g), hI⟩ => n - i) (⟨(0, Gr.nil), Nat.zero_le _⟩) (Cv.mem (.cons (t := 26) (Has.t' rfl ?_) (.cons (t := 4) (Has.t' rfl ?_) (.cons (t := 2) (Has.t rfl) (.cons (t := 24) (Has.t rfl) (.cons (t := 25) (Has.t rfl) .nil))))) ?_) ?_
    · rfl
    · rfl
    · rfl
    rintro ⟨⟨i, g⟩, hI⟩ K10 hK10
    refine Tri.cv (Cv.wk (.cons (t := 26) (Has.t rfl) (.cons (t := 4) (Has.t rfl) (.cons (t := 2) (Has.t rfl) (.cons (t := 24) (Has.t rfl) (.cons (t := 25) (Has.t rfl) .nil)))))) ?_
    refine Tri.memEq (M' := [grMK zc g (((vals xs).take i).map nz)]) rfl ?_
    simp only [] at hI
    have htl : (xs.take ((n : Int)).toNat).length = n := by rw [Int.toNat_natCast, List.length_take]; omega
    have hvl := vals_len xs
    have hyl : (((vals xs).take i).map nz).length = i := by rw [List.length_map, List.length_take]; omega
    refine Tri.seq fun K11 hK11 => ?_
    refine Tri.region ?_
    refine st (OK1.ltI (Has.t rfl) (Has.t rfl)) rfl ?_
    refine nl ?_
    refine At.thn (hK11 _ _ ?_); clear hK11
    refine Tri.seq fun K12 hK12 => ?_
    refine Tri.cond (Has.t rfl) (fun hc2 => ?_) (fun hc2 => ?_)
    · have hc2 := BP.t hc2
      refine Tri.skip ?_
      refine At.thn (hK12 _ _ ?_); clear hK12
      refine Tri.seq fun K13 hK13 => ?_
      refine Tri.block ?_
      refine Tri.seq fun K14 hK14 => ?_
      refine Tri.region ?_
      refine st (OK1.ixK sl34 ty44 (Has.t rfl) (Has.t rfl) zc_len ⟨by omega, by omega⟩ (getD_some (d := (false, [])) (by first | omega | (simp only [Int.toNat_natCast, List.length_set]; omega)))) rfl ?_
      refine st (OK1.loadP (Has.t rfl) ty44 rfl (Ss' := [_, _]) rfl) rfl ?_
      refine Ops.alloc [isB false, SlM isU []] zero44 (fun _ _ => ⟨rfl, nilM _ _, trivial⟩) rfl fun b1 => ?_
      refine Ops.store (Has.t rfl) (Has.t rfl) (i := 0) rfl ty44 rfl rfl (Ss' := [_, _]) rfl (M' := [(some _, cellM [_, _]), _]) rfl ?_
      refine nl ?_
      refine At.thn (hK14 _ _ ?_); clear hK14
      refine Tri.region ?_
      refine st (OK1.mv (Has.t rfl)) rfl ?_
      refine st (OK1.fieldAddr (Has.t rfl) fld44_1 ty42) rfl ?_
      refine st (OK1.load1 (Has.t rfl) (i := 0) rfl ty42 rfl) rfl ?_
      refine st (OK1.fieldAddr (Has.t rfl) fld44_0 ty4) rfl ?_
      refine st (OK1.load1 (Has.t rfl) (i := 0) rfl ty4 rfl) rfl ?_
      refine st (OK1.eq (OK1.call (zint_From (by simp only [Int.toNat_natCast]; rw [getD_takeZ (by omega)]; have := hx.raw i; omega)) (.cons (Has.t rfl) (.cons (Has.t rfl) .nil))) ((show isZ _ = Flat (zc (nz (cf (vals xs) i))) from isZ_eq (by rw [cf_vals]; simp only [Int.toNat_natCast]; rw [getD_takeZ (by omega)])))) rfl ?_
      refine st (OK1.buildS [isB false, SlM isU []] sl34 ty44 zero44 (fun _ _ => ⟨rfl, nilM _ _, trivial⟩) rfl rfl (.cons (Has.t rfl) rfl rfl rfl .nil) rfl (S := SlK 2 zc [nz (cf (vals xs) i)]) rfl) rfl ?_
      refine Ops.appendGK (fk := zc) (u := (false, [])) zc_len (by decide) (fun _ => inferInstance) sl34 ty44 zero44 (fun _ _ => ⟨rfl, nilM _ _, trivial⟩) by44 (Has.t rfl) (i := 1) rfl (Has.t rfl) (by rw [hyl]; show i + 1 ≤ _; omega) (by simp) rfl fun gr1 => ?_
      refine Ops.memEq (M' := [_, grMK _ _ _]) rfl ?_
      refine st (OK1.as (Has.t rfl)) rfl ?_
      refine nl ?_
      refine At.bln ?_
      refine At.thn (hK13 _ _ ?_); clear hK13
      refine Tri.region ?_
      refine st (OK1.addI (Has.t rfl) (Has.cI 1 rfl) (by first | omega | assumption) (by first | omega | assumption)) rfl ?_
      refine st (OK1.mv (Has.t rfl)) rfl ?_
      refine nl ?_
      refine At.thn ?_
      refine hK10 (⟨(i + 1, gr1), by show i + 1 ≤ _; omega⟩) _ _ ?_ (Cv.trans (Cv.drop ((.cons _ (.cons_cons _ .slnil)))) (Cv.mem (.cons (t := 26) (Has.t' rfl ?_) (.cons (t := 4) (Has.t' rfl ?_) (.cons (t := 2) (Has.t rfl) (.cons (t := 24) (Has.t rfl) (.cons (t := 25) (Has.t rfl) .nil))))) ?_))
      · show n - (i + 1) < n - i; omega
      · exact isI_eq (by omega)
      · exact isGr_eq (by rw [← take_map_succ _ _ (by omega), List.length_append])
      · exact grMK_eq (take_map_succ _ _ (by omega))
    · have hc2 := BP.f hc2
      refine Tri.exit ?_
      refine At.the ?_
      refine At.the ?_
      refine At.blh ?_
      refine At.thn (hK8 _ _ ?_); clear hK8
      refine Tri.seq fun K15 hK15 => ?_
      refine Tri.cv (Cv.freezeGK (t := 4) (i := 0) (ys := ((vals xs).take i).map nz) zc_len rfl rfl rfl) ?_
      refine Tri.memEq (M' := []) rfl ?_
      refine Tri.cv (Cv.wk (.cons (t := 2) (Has.t rfl) (.cons (t := 24) (Has.t rfl) (.cons (t := 25) (Has.t rfl) (.cons (t := 26) (Has.t rfl) (.cons (t := 4) (Has.t rfl) (.cons (t := 27) (Has.t rfl) .nil))))))) ?_
      refine Tri.region ?_
      refine st (OK1.mv (Has.t rfl)) rfl ?_
      refine st (OK1.as (Has.t rfl)) rfl ?_
      refine nl ?_
      refine At.thn (hK15 _ _ ?_); clear hK15
      refine Tri.cv (Cv.wk (.cons (t := 2) (Has.t rfl) .nil)) ?_
      refine Tri.ret ?_
      refine rt1 (.inl rfl) Try.results98 rfl (.tmp (Has.t' rfl ?_) .nil)
      all_goals (exact isP_eq (by obtain rfl : i = n := (by omega); exact take_norm (by rcases HA2 with h | h; left; omega; right; rw [cf_vals, ← ek]; exact fun e => h ((sgn_eq0 _).2 e)) hz))
end Go.Proofs.Ytgkbekcpmbjbdaa
/- Contracts: the characteristic polynomial. -/
namespace Go.Proofs.Ytgkbekcpmbjbdaa
open Go.En Go.RowKit
set_option linter.unusedVariables false
set_option maxRecDepth 10000
open Go.Nt
open Go.Pz
open Go.Mz
open Go.Hn
open Go.Hp
open Go.Dt
open Go.Ch
theorem exact_mul {k : Nat} (h : 1 ≤ k) (c : Int) : (if (k : Int) ≠ 0 ∧ ((k : Int) * c).tmod (k : Int) = 0 then ((k : Int) * c).tdiv (k : Int) else 0) = c := by
  rw [if_pos ⟨by omega, Int.mul_tmod_right _ _⟩]
  exact Int.mul_tdiv_cancel_left _ (by omega)
theorem qF_fz {n k : Nat} {L : List Int} (h : k = n + 1) : (qF n L k).take (n + 1) = (chL n L).map nz := by
  subst h
  rw [List.take_of_length_le (by rw [qF_len]; exact Nat.le_refl _), qF_done]
theorem memQ_eq {b : Nat} {x : Option Nat × MP} {a c : List (Bool × List Nat)} {r : Mem} (h : a = c) : (x :: (some b, cellM (a.flatMap zc)) :: r : Mem) = x :: (some b, cellM (c.flatMap zc)) :: r := by subst h; rfl
theorem fl_first (n : Nat) (L : List Int) : oneL n = flM n L (min 1 n) := by
  rcases Nat.eq_zero_or_pos n with h | h
  · subst h; rfl
  · rw [Nat.min_eq_left h, fl_one h]
set_option maxHeartbeats 4000000 in
theorem zchar_steps {n K : Nat} {xs : List (Bool × List Nat)} (hx : Bd (vals xs) K) (hB : K + flB n K n + 2 * n ≤ 900) (hn : n ≤ 64) (hl : xs.length = n * n) : Ctr Try.prog 64 [isM (n : Int) (n : Int) xs] (isTup [isP (chL n (vals xs)), isMz n n (flM n (vals xs) n)]) := by
  refine Ctr.intro Try.func64 rfl (by kernel_rfl) Try.ntmps64 rfl fun w0 F0 => ?_
  refine Tri.cv (Cv.wk (.cons (t := 0) (Has.t rfl) .nil)) ?_
  have hRC := side_le hn hn
  have hOb : Bd (vals ((oneL n).map nz)) 1 := by rw [vals_nz]; exact oneL_bd n
  have hOl : ((oneL n).map nz).length = n * n := by rw [List.length_map, oneL_len]
  have hcb := chL_bd (n := n) hx
  refine Tri.seq fun K1 hK1 => ?_
  refine Tri.region ?_
  refine Ops.box (Has.t rfl) rfl fun b1 => ?_
  refine st (OK1.as (Has.cWK (k := 2) (fk := zc))) rfl ?_
  refine Ops.alloc [isI 0, isI 0, nilS] zero24 (fun _ _ => ⟨⟨rfl, by decide, by decide⟩, ⟨rfl, by decide, by decide⟩, rfl, trivial⟩) rfl fun b2 => ?_
  refine nl ?_
  refine At.thn (hK1 _ _ ?_); clear hK1
  refine Tri.seq fun K2 hK2 => ?_
  refine Tri.region ?_
  refine st (OK1.fieldAddr (Has.t rfl) fld24_0 ty3) rfl ?_
  refine st (OK1.load1 (Has.t rfl) (i := 1) rfl ty3 rfl) rfl ?_
  refine st (OK1.as (Has.t rfl)) rfl ?_
  refine nl ?_
  refine At.thn (hK2 _ _ ?_); clear hK2
  refine Tri.seq fun K3 hK3 => ?_
  refine Tri.region ?_
  refine st (OK1.mv (Has.t rfl)) rfl ?_
  refine st (OK1.call (zmat_Identity hn) (.cons (Has.t rfl) .nil)) rfl ?_
  refine st (OK1.ext (Has.t rfl) rfl) rfl ?_
  refine st (OK1.ext (Has.t rfl) rfl) rfl ?_
  refine st (OK1.call (zchar_must) (.cons (Has.t rfl) (.cons (Has.t rfl) .nil))) rfl ?_
  refine Ops.alloc [isI 0, isI 0, nilS] zero24 (fun _ _ => ⟨⟨rfl, by decide, by decide⟩, ⟨rfl, by decide, by decide⟩, rfl, trivial⟩) rfl fun b3 => ?_
  refine Ops.store (Has.t rfl) (Has.t rfl) (i := 0) rfl ty24 rfl rfl (Ss' := [_, _, _]) rfl (M' := [(some _, cellM [_, _, _]), _, _]) rfl ?_
  refine nl ?_
  refine At.thn (hK3 _ _ ?_); clear hK3
  refine Tri.cv (Cv.wk (.cons (t := 1) (Has.t rfl) (.cons (t := 2) (Has.t rfl) (.cons (t := 3) (Has.t rfl) (.cons (t := 4) (Has.t rfl) (.cons (t := 5) (Has.t rfl) .nil)))))) ?_
  refine Tri.seq fun K4 hK4 => ?_
  refine Tri.region ?_
  refine st (OK1.mv (Has.t rfl)) rfl ?_
  refine st (OK1.eq (OK1.addI (Has.t rfl) (Has.cI 1 rfl) (by first | omega | assumption) (by first | omega | assumption)) ((show isI _ = isI ((n + 1 : Nat) : Int) from isI_eq (by omega)))) rfl ?_
  refine Ops.makeK (fk := zc) (u := (false, [])) (n := (n + 1)) (c := (n + 1)) sl34 ty44 zero44 (fun _ _ => ⟨rfl, nilM _ _, trivial⟩) zc_len by44 (Has.t' rfl rfl) (Has.t' rfl rfl) ⟨by omega, by omega⟩ rfl fun b4 => ?_
  refine st (OK1.as (Has.t rfl)) rfl ?_
  refine nl ?_
  refine At.thn (hK4 _ _ ?_); clear hK4
  refine Tri.seq fun K5 hK5 => ?_
  refine Tri.region ?_
  refine st (OK1.mv (Has.t rfl)) rfl ?_
  refine st (OK1.mv (Has.t rfl)) rfl ?_
  refine st (OK1.eq (OK1.call (zint_Of) (.cons (Has.cI 1 rfl) .nil)) ((show isZ 1 = Flat (zc (nz 1)) from rfl))) rfl ?_
  refine st (OK1.eq (OK1.ixWin sl34 ty44 (Has.t rfl) (Has.t rfl) ⟨by omega, by omega⟩) (isPtr_eq (by first | exact ixo0 | exact ixo2 | exact ixo1))) rfl ?_
  refine Ops.storeK (z := nz 1) zc_len (Has.t rfl) (Has.t rfl) (i := 0) rfl ty44 (by simp only [Int.toNat_natCast, List.length_replicate]; omega) (M' := [(_, _), _, _, _]) rfl ?_
  refine nl ?_
  refine At.thn (hK5 _ _ ?_); clear hK5
  refine Tri.cv (Cv.wk (.cons (t := 1) (Has.t rfl) (.cons (t := 2) (Has.t rfl) (.cons (t := 3) (Has.t rfl) (.cons (t := 4) (Has.t rfl) (.cons (t := 5) (Has.t rfl) (.cons (t := 6) (Has.t rfl) .nil))))))) ?_
  refine Tri.seq fun K6 hK6 => ?_
  refine Tri.region ?_
  refine st (OK1.load (Has.t rfl) (i := 1) rfl ty24 rfl (Ss' := [_, _, _]) rfl) rfl ?_
  refine Ops.alloc [isI 0, isI 0, nilS] zero24 (fun _ _ => ⟨⟨rfl, by decide, by decide⟩, ⟨rfl, by decide, by decide⟩, rfl, trivial⟩) rfl fun b5 => ?_
  refine Ops.store (Has.t rfl) (Has.t rfl) (i := 0) rfl ty24 rfl rfl (Ss' := [_, _, _]) rfl (M' := [(some _, cellM [_, _, _]), _, _, _, _]) rfl ?_
  refine nl ?_
  refine At.thn (hK6 _ _ ?_); clear hK6
  refine Tri.seq fun K7 hK7 => ?_
  refine Tri.seq fun K8 hK8 => ?_
  refine Tri.region ?_
  refine st (OK1.as (Has.cI 1 rfl)) rfl ?_
  refine nl ?_
  refine At.thn (hK8 _ _ ?_); clear hK8
  refine Tri.block ?_
  refine Tri.loopF [1, 2, 3, 4, 5, 6, 7] (fun (z : { z : Nat × List Int // 1 ≤ z.1 ∧ z.1 ≤ n + 1 ∧ z.2 = flM n (vals xs) (min z.1 n) }) => match z with | ⟨(k, Mk), hI⟩ => [(8, isI (k : Int))]) (fun M => fun (z : { z : Nat × List Int // 1 ≤ z.1 ∧ z.1 ≤ n + 1 ∧ z.2 = flM n (vals xs) (min z.1 n) }) => match z with | ⟨(k, Mk), hI⟩ => [(some b5, cellM [isI (n : Int), isI (n : Int), SlK 2 zc (Mk.map nz)]), (some b4, cellM ((qF n (vals xs) k).flatMap zc)), (some b3, cellM [isI (n : Int), isI (n : Int), SlK 2 zc ((oneL n).map nz)]), (some b2, cellM [isI 0, isI 0, nilS]), (some b1, cellM [isI (n : Int), isI (n : Int), SlK 2 zc xs])]) (fun (z : { z : Nat × List Int // 1 ≤ z.1 ∧ z.1 ≤ n + 1 ∧ z.2 = flM n (vals xs) (min z.1 n) }) => match z with | ⟨(k, Mk), hI⟩ => n + 1 - k) (⟨(1, oneL n), Nat.le_refl _, by show 1 ≤ n + 1; omega, fl_first n _⟩) (Cv.mem (.cons (t := 8) (Has.t' rfl ?_) (.cons (t := 1) (Has.t rfl) (.cons (t := 2) (Has.t rfl) (.cons (t := 3) (Has.t rfl) (.cons (t := 4) (Has.t rfl) (.cons (t := 5) (Has.t rfl) (.cons (t := 6) (Has.t rfl) (.cons (t := 7) (Has.t rfl) .nil)))))))) ?_) ?_
  · exact isI_eq (by omega)
  · exact memQ_eq (qF_one n _)
  rintro ⟨⟨k, Mk⟩, hI⟩ K9 hK9
  refine Tri.cv (Cv.wk (.cons (t := 8) (Has.t rfl) (.cons (t := 1) (Has.t rfl) (.cons (t := 2) (Has.t rfl) (.cons (t := 3) (Has.t rfl) (.cons (t := 4) (Has.t rfl) (.cons (t := 5) (Has.t rfl) (.cons (t := 6) (Has.t rfl) (.cons (t := 7) (Has.t rfl) .nil))))))))) ?_
  refine Tri.memEq (M' := [(some b5, cellM [isI (n : Int), isI (n : Int), SlK 2 zc (Mk.map nz)]), (some b4, cellM ((qF n (vals xs) k).flatMap zc)), (some b3, cellM [isI (n : Int), isI (n : Int), SlK 2 zc ((oneL n).map nz)]), (some b2, cellM [isI 0, isI 0, nilS]), (some b1, cellM [isI (n : Int), isI (n : Int), SlK 2 zc xs])]) rfl ?_
  simp only [] at hI
  obtain ⟨hk1, hk2, hMk⟩ := hI
  obtain ⟨cK, hcK⟩ : ∃ c, c = flC n (vals xs) k := ⟨_, rfl⟩
  have hMl : Mk.length = n * n := by rw [hMk]; exact flM_len _ _ _
  refine Tri.seq fun K10 hK10 => ?_
  refine Tri.seq fun K11 hK11 => ?_
  refine Tri.region ?_
  refine st (OK1.mv (Has.t rfl)) rfl ?_
  refine st (OK1.mv (Has.t rfl)) rfl ?_
  refine st (OK1.leI (Has.t rfl) (Has.t rfl)) rfl ?_
  refine nl ?_
  refine At.thn (hK11 _ _ ?_); clear hK11
  refine Tri.cond (Has.t rfl) (fun hc1 => ?_) (fun hc1 => ?_)
  · have hc1 := BP.t hc1
    have hkn : k ≤ n := (by omega)
    have hMk2 : Mk = flM n (vals xs) k := by rw [hMk, Nat.min_eq_left hkn]
    have hMb : Bd Mk (flB n K n) := by rw [hMk2]; exact (fl_bd hx k hk1 hkn).mono (by unfold flB; exact Nat.add_le_add_left (Nat.mul_le_mul_right _ (by omega)) _)
    obtain ⟨Am, hAm⟩ : ∃ X, X = prdL n (vals xs) Mk := ⟨_, rfl⟩
    have hAb : Bd Am (K + flB n K n + n) := by rw [hAm]; exact prdL_bd hx hMb
    have hAl : Am.length = n * n := by rw [hAm]; exact prdL_len _ _ _
    have htr : trcL n Am n = -((k : Int) * cK) := by rw [hAm, hMk2, hcK]; exact fl_tr hk1 hkn
    have hcb2 : (List.length (words cK.natAbs)) ≤ K + flB n K n + 2 * n := by rw [hcK]; exact fl_cbd hx (by rw [← hMk2]; exact hMb) hk1 hkn
    have hts : (List.length (words (trcL n Am n).natAbs)) ≤ K + flB n K n + n + n := sm_nw (fun i => hAb _) n
    rw [htr, Int.natAbs_neg] at hts
    have hkw : (List.length (words ((k : Int)).natAbs)) ≤ 1 := nw_small' (by omega)
    refine Tri.skip ?_
    refine At.thn (hK10 _ _ ?_); clear hK10
    refine Tri.seq fun K12 hK12 => ?_
    refine Tri.block ?_
    refine Tri.seq fun K13 hK13 => ?_
    refine Tri.region ?_
    refine st (OK1.load (Has.t rfl) (i := 4) rfl ty24 rfl (Ss' := [_, _, _]) rfl) rfl ?_
    refine st (OK1.load (Has.t rfl) (i := 0) rfl ty24 rfl (Ss' := [_, _, _]) rfl) rfl ?_
    refine st (OK1.eq (OK1.call (zmat_Mul (R := n) (C := n) (D := n) (K := K) (L := flB n K n) (ys := Mk.map nz) hx (by rw [vals_nz]; exact hMb) (by omega) hn hn hn hl (by rw [List.length_map]; exact hMl)) (.cons (Has.t rfl) (.cons (Has.t rfl) .nil))) ((show _ = isTup [isMz n n Am, isI 0] from by rw [vals_nz, hAm]; rfl))) rfl ?_
    refine st (OK1.ext (Has.t rfl) rfl) rfl ?_
    refine st (OK1.ext (Has.t rfl) rfl) rfl ?_
    refine st (OK1.call (zchar_must) (.cons (Has.t rfl) (.cons (Has.t rfl) .nil))) rfl ?_
    refine Ops.alloc [isI 0, isI 0, nilS] zero24 (fun _ _ => ⟨⟨rfl, by decide, by decide⟩, ⟨rfl, by decide, by decide⟩, rfl, trivial⟩) rfl fun b6 => ?_
    refine Ops.store (Has.t rfl) (Has.t rfl) (i := 0) rfl ty24 rfl rfl (Ss' := [_, _, _]) rfl (M' := [(some _, cellM [_, _, _]), _, _, _, _, _]) rfl ?_
    refine nl ?_
    refine At.thn (hK13 _ _ ?_); clear hK13
    refine Tri.seq fun K14 hK14 => ?_
    refine Tri.region ?_
    refine st (OK1.load (Has.t rfl) (i := 0) rfl ty24 rfl (Ss' := [_, _, _]) rfl) rfl ?_
    refine st (OK1.eq (OK1.call (zchar_trace (K := K + flB n K n + n) (xs := Am.map nz) (by rw [vals_nz]; exact hAb) (by omega) hn (by rw [List.length_map]; exact hAl)) (.cons (Has.t rfl) .nil)) ((show _ = isZ (-((k : Int) * cK)) from isZ_eq (by rw [vals_nz, htr])))) rfl ?_
    refine st (OK1.eq (OK1.call (zint_Neg (by rw [val_words, Int.natAbs_neg]; omega)) (.cons (Has.t rfl) .nil)) ((show _ = isZ ((k : Int) * cK) from isZ_eq (by simp only [zv_nf, zv_nz]; omega)))) rfl ?_
    refine st (OK1.mv (Has.t rfl)) rfl ?_
    refine st (OK1.call (zint_Of) (.cons (Has.t rfl) .nil)) rfl ?_
    refine st (OK1.call (zint_Exact (by rw [val_words]; omega) (by rw [val_words]; omega)) (.cons (Has.t rfl) (.cons (Has.t rfl) .nil))) rfl ?_
    refine st (OK1.mv (Has.t rfl)) rfl ?_
    refine st (OK1.eq (OK1.ext (Has.t rfl) rfl) ((show _ = isZ cK from isZ_eq (by simp only [zv_nf, zv_nz]; exact exact_mul hk1 cK)))) rfl ?_
    refine st (OK1.ext (Has.t rfl) rfl) rfl ?_
    refine Ops.alloc [isB false, SlM isU []] zero44 (fun _ _ => ⟨rfl, nilM _ _, trivial⟩) rfl fun b7 => ?_
    refine Ops.store (Has.t rfl) (Has.t rfl) (i := 0) rfl ty44 rfl rfl (Ss' := [_, _]) rfl (M' := [(some _, cellM [_, _]), _, _, _, _, _, _]) rfl ?_
    refine st (OK1.as (Has.t rfl)) rfl ?_
    refine nl ?_
    refine At.thn (hK14 _ _ ?_); clear hK14
    refine Tri.seq fun K15 hK15 => ?_
    refine Tri.region ?_
    refine st (OK1.mv (Has.t rfl)) rfl ?_
    refine st (OK1.mv (Has.t rfl)) rfl ?_
    refine st (OK1.mv (Has.t rfl)) rfl ?_
    refine st (OK1.eq (OK1.subI (Has.t rfl) (Has.t rfl) (by first | omega | assumption) (by first | omega | assumption)) ((show isI _ = isI ((n - k : Nat) : Int) from isI_eq (by omega)))) rfl ?_
    refine st (OK1.load (Has.t rfl) (i := 0) rfl ty44 rfl (Ss' := [_, _]) rfl) rfl ?_
    refine st (OK1.eq (OK1.ixWin sl34 ty44 (Has.t rfl) (Has.t rfl) ⟨by omega, by omega⟩) (isPtr_eq (by first | exact ixo0 | exact ixo2 | exact ixo1))) rfl ?_
    refine Ops.storeK (z := nz cK) zc_len (Has.t rfl) (Has.t rfl) (i := 3) rfl ty44 (by rw [qF_len]; simp only [Int.toNat_natCast]; omega) (M' := [_, _, _, (_, _), _, _, _]) rfl ?_
    refine nl ?_
    refine At.thn (hK15 _ _ ?_); clear hK15
    refine Tri.seq fun K16 hK16 => ?_
    refine Tri.region ?_
    refine st (OK1.mv (Has.t rfl)) rfl ?_
    refine st (OK1.mv (Has.t rfl)) rfl ?_
    refine st (OK1.ltI (Has.t rfl) (Has.t rfl)) rfl ?_
    refine nl ?_
    refine At.thn (hK16 _ _ ?_); clear hK16
    refine Tri.cond (Has.t rfl) (fun hc2 => ?_) (fun hc2 => ?_)
    · have hc2 := BP.t hc2
      refine Tri.dr ?_
      refine DrG.st (i := 0) [] rfl rfl rfl (by kernel_rfl) (OKG.o rfl (OK1.load (Has.t rfl) (i := 1) rfl ty24 rfl (Ss' := [_, _, _]) rfl)) ?_
      refine DrG.st (i := 1) [] rfl rfl rfl (by kernel_rfl) (OKG.o rfl (OK1.load (Has.t rfl) (i := 4) rfl ty24 rfl (Ss' := [_, _, _]) rfl)) ?_
      refine DrG.st (i := 2) [] rfl rfl rfl (by kernel_rfl) (OKG.o rfl (OK1.load (Has.t rfl) (i := 0) rfl ty44 rfl (Ss' := [_, _]) rfl)) ?_
      refine DrG.st (i := 3) [57, 58] rfl rfl rfl (by kernel_rfl) (OKG.o rfl (OK1.eq (OK1.call (zmat_Scale (R := n) (C := n) (K := 1) hOb (by decide) (by rw [val_words]; omega) hn hn hOl) (.cons (Has.t rfl) (.cons (Has.t rfl) .nil))) ((show _ = isTup [isMz n n (sclL n n cK (oneL n)), isI 0] from by rw [vals_nz]; first | rw [zv_nf] | rw [zv_nz])))) ?_
      refine DrG.st (i := 4) [59] rfl rfl rfl (by kernel_rfl) (OKG.o rfl (OK1.ext (Has.t rfl) rfl)) ?_
      refine DrG.st (i := 5) [59] rfl rfl rfl (by kernel_rfl) (OKG.o rfl (OK1.ext (Has.t rfl) rfl)) ?_
      refine DrG.st (i := 6) [60, 61] rfl rfl rfl (by kernel_rfl) (OKG.o rfl (OK1.call (zchar_must) (.cons (Has.t rfl) (.cons (Has.t rfl) .nil)))) ?_
      refine DrG.st (i := 7) [56, 62] rfl rfl rfl (by kernel_rfl) (OKG.o rfl (OK1.eq (OK1.call (zmat_Add (K := 1000) (xs := Am.map nz) (ys := (sclL n n cK (oneL n)).map nz) (by rw [vals_nz]; exact hAb.mono (by omega)) (by rw [vals_nz]; exact (scl_one_bd hcb2).mono (by omega)) (by decide) hn (by rw [List.length_map]; exact hAl) (by rw [List.length_map, sclL_len])) (.cons (Has.t rfl) (.cons (Has.t rfl) .nil))) ((show _ = isTup [isMz n n (sumL n Am (sclL n n cK (oneL n))), isI 0] from by rw [vals_nz, vals_nz])))) ?_
      refine DrG.st (i := 8) [63] rfl rfl rfl (by kernel_rfl) (OKG.o rfl (OK1.ext (Has.t rfl) rfl)) ?_
      refine DrG.st (i := 9) [63] rfl rfl rfl (by kernel_rfl) (OKG.o rfl (OK1.ext (Has.t rfl) rfl)) ?_
      refine DrG.fin (n := 10) mixed (by kernel_rfl) (by kernel_rfl) (by kernel_rfl) ?_
      refine Ops.cv (Cv.wk (.cons (t := 1) (Has.t rfl) (.cons (t := 2) (Has.t rfl) (.cons (t := 3) (Has.t rfl) (.cons (t := 4) (Has.t rfl) (.cons (t := 5) (Has.t rfl) (.cons (t := 6) (Has.t rfl) (.cons (t := 7) (Has.t rfl) (.cons (t := 8) (Has.t rfl) (.cons (t := 27) (Has.t rfl) (.cons (t := 28) (Has.t rfl) (.cons (t := 29) (Has.t rfl) (.cons (t := 32) (Has.t rfl) (.cons (t := 33) (Has.t rfl) (.cons (t := 34) (Has.t rfl) (.cons (t := 35) (Has.t rfl) (.cons (t := 36) (Has.t rfl) (.cons (t := 37) (Has.t rfl) (.cons (t := 9) (Has.t rfl) (.cons (t := 39) (Has.t rfl) (.cons (t := 40) (Has.t rfl) (.cons (t := 41) (Has.t rfl) (.cons (t := 42) (Has.t rfl) (.cons (t := 43) (Has.t rfl) (.cons (t := 44) (Has.t rfl) (.cons (t := 38) (Has.t rfl) (.cons (t := 45) (Has.t rfl) (.cons (t := 46) (Has.t rfl) (.cons (t := 10) (Has.t rfl) (.cons (t := 47) (Has.t rfl) (.cons (t := 48) (Has.t rfl) (.cons (t := 49) (Has.t rfl) (.cons (t := 50) (Has.t rfl) (.cons (t := 51) (Has.t rfl) (.cons (t := 52) (Has.t rfl) (.cons (t := 53) (Has.t rfl) (.cons (t := 54) (Has.t rfl) (.cons (t := 55) (Has.t rfl) (.cons (t := 56) (Has.t rfl) (.cons (t := 57) (Has.t rfl) (.cons (t := 58) (Has.t rfl) (.cons (t := 59) (Has.t rfl) (.cons (t := 60) (Has.t rfl) (.cons (t := 61) (Has.t rfl) (.cons (t := 62) (Has.t rfl) (.cons (t := 63) (Has.t rfl) (.cons (t := 64) (Has.t rfl) (.cons (t := 65) (Has.t rfl) .nil)))))))))))))))))))))))))))))))))))))))))))))))) ?_
      refine st (OK1.call (zchar_must) (.cons (Has.t rfl) (.cons (Has.t rfl) .nil))) rfl ?_
      refine Ops.store (Has.t rfl) (Has.t rfl) (i := 2) rfl ty24 rfl rfl (Ss' := [_, _, _]) rfl (M' := [_, _, (some _, cellM [_, _, _]), _, _, _, _]) rfl ?_
      refine nl ?_
      refine At.bln ?_
      refine At.thn (hK12 _ _ ?_); clear hK12
      refine Tri.region ?_
      refine st (OK1.mv (Has.t rfl)) rfl ?_
      refine st (OK1.addI (Has.t rfl) (Has.cI 1 rfl) (by first | omega | assumption) (by first | omega | assumption)) rfl ?_
      refine st (OK1.as (Has.t rfl)) rfl ?_
      refine nl ?_
      refine At.thn ?_
      refine hK9 (⟨(k + 1, sumL n Am (sclL n n cK (oneL n))), by show 1 ≤ k + 1; omega, by show k + 1 ≤ n + 1; omega, by show _ = flM n (vals xs) (min (k + 1) n); rw [hAm, hMk2, hcK, Nat.min_eq_left (by omega)]; exact fl_next hk1 (by omega)⟩) _ _ ?_ (Cv.trans (Cv.drop ((.cons _ (.cons _ (.cons_cons _ (.cons_cons _ (.cons_cons _ (.cons_cons _ (.cons_cons _ .slnil))))))))) (Cv.mem (.cons (t := 8) (Has.t' rfl ?_) (.cons (t := 1) (Has.t rfl) (.cons (t := 2) (Has.t rfl) (.cons (t := 3) (Has.t rfl) (.cons (t := 4) (Has.t rfl) (.cons (t := 5) (Has.t rfl) (.cons (t := 6) (Has.t rfl) (.cons (t := 7) (Has.t rfl) .nil)))))))) ?_))
      · show n + 1 - (k + 1) < n + 1 - k; omega
      · exact isI_eq (by omega)
      · exact memQ_eq (by rw [Int.toNat_natCast, hcK]; exact qF_set hkn)
    · have hc2 := BP.f hc2
      refine Tri.skip ?_
      refine At.bln ?_
      refine At.thn (hK12 _ _ ?_); clear hK12
      refine Tri.region ?_
      refine st (OK1.mv (Has.t rfl)) rfl ?_
      refine st (OK1.addI (Has.t rfl) (Has.cI 1 rfl) (by first | omega | assumption) (by first | omega | assumption)) rfl ?_
      refine st (OK1.as (Has.t rfl)) rfl ?_
      refine nl ?_
      refine At.thn ?_
      refine hK9 (⟨(k + 1, Mk), by show 1 ≤ k + 1; omega, by show k + 1 ≤ n + 1; omega, by show _ = flM n (vals xs) (min (k + 1) n); rw [hMk, Nat.min_eq_right (by omega), Nat.min_eq_right (by omega)]⟩) _ _ ?_ (Cv.trans (Cv.drop ((.cons _ (.cons _ (.cons_cons _ (.cons_cons _ (.cons_cons _ (.cons_cons _ (.cons_cons _ .slnil))))))))) (Cv.mem (.cons (t := 8) (Has.t' rfl ?_) (.cons (t := 1) (Has.t rfl) (.cons (t := 2) (Has.t rfl) (.cons (t := 3) (Has.t rfl) (.cons (t := 4) (Has.t rfl) (.cons (t := 5) (Has.t rfl) (.cons (t := 6) (Has.t rfl) (.cons (t := 7) (Has.t rfl) .nil)))))))) ?_))
      · show n + 1 - (k + 1) < n + 1 - k; omega
      · exact isI_eq (by omega)
      · exact memQ_eq (by rw [Int.toNat_natCast, hcK]; exact qF_set hkn)
  · have hc1 := BP.f hc1
    have hkn : k = n + 1 := (by omega)
    refine Tri.exit ?_
    refine At.the ?_
    refine At.the ?_
    refine At.blh ?_
    refine At.thn (hK7 _ _ ?_); clear hK7
    refine Tri.cv (Cv.wk (.cons (t := 2) (Has.t rfl) (.cons (t := 3) (Has.t rfl) (.cons (t := 6) (Has.t rfl) (.cons (t := 7) (Has.t rfl) .nil))))) ?_
    refine Tri.seq fun K17 hK17 => ?_
    refine Tri.cv (Cv.freezeK (t := 6) (i := 1) (ys := (chL n (vals xs)).map nz) zc_len rfl rfl rfl (by rw [qF_len]; omega) (qF_fz hkn)) ?_
    refine Tri.memEq (M' := [_, _, _, _]) rfl ?_
    refine Tri.cv (Cv.wk (.cons (t := 2) (Has.t rfl) (.cons (t := 3) (Has.t rfl) (.cons (t := 6) (Has.t rfl) (.cons (t := 7) (Has.t rfl) .nil))))) ?_
    refine Tri.cv (Cv.wk (.cons (t := 3) (Has.t rfl) (.cons (t := 6) (Has.t rfl) (.cons (t := 7) (Has.t rfl) .nil)))) ?_
    refine Tri.dr ?_
    refine DrG.st (i := 0) [] rfl rfl rfl (by kernel_rfl) (OKG.o rfl (OK1.mv (Has.t rfl))) ?_
    refine DrG.st (i := 1) [67] rfl rfl rfl (by kernel_rfl) (OKG.o rfl (OK1.eq (OK1.call (zpoly_Norm (K := 1000) (by rw [vals_nz]; exact hcb.mono (by omega)) (by decide) (by rw [List.length_map, chL_len]; omega)) (.cons (Has.t rfl) .nil)) ((show _ = isP (chL n (vals xs)) from isPl_eq (by rw [vals_nz, chL_norm]))))) ?_
    refine DrG.st (i := 2) [] rfl rfl rfl (by kernel_rfl) (OKG.o rfl (OK1.load (Has.t rfl) (i := 0) rfl ty24 rfl (Ss' := [_, _, _]) rfl)) ?_
    refine DrG.st (i := 3) [68] rfl rfl rfl (by kernel_rfl) (OKG.o rfl (OK1.as (Has.t rfl))) ?_
    refine DrG.fin (n := 4) mixed (by kernel_rfl) (by kernel_rfl) (by kernel_rfl) ?_
    refine Ops.cv (Cv.wk (.cons (t := 3) (Has.t rfl) (.cons (t := 69) (Has.t rfl) (.cons (t := 2) (Has.t rfl) .nil)))) ?_
    refine Ops.store (Has.t rfl) (Has.t rfl) (i := 2) rfl ty24 rfl rfl (Ss' := [_, _, _]) rfl (M' := [_, _, (some _, cellM [_, _, _]), _]) rfl ?_
    refine nl ?_
    refine At.thn (hK17 _ _ ?_); clear hK17
    refine Tri.ret ?_
    refine rtN (.inl rfl) Try.results64 rfl rfl (.tmp (Has.t' rfl ?_) (.cell rfl (i := 2) rfl ty24 rfl ?_ .nil))
    · rfl
    · exact isMz_eq (by rw [hMk, hkn, Nat.min_eq_right (by omega)])
set_option maxHeartbeats 4000000 in
theorem zchar_Char {n K : Nat} {xs : List (Bool × List Nat)} (hx : Bd (vals xs) K) (hB : K + flB n K n + 2 * n ≤ 900) (hn : n ≤ 64) (hl : xs.length = n * n) : Ctr Try.prog 18 [isM (n : Int) (n : Int) xs] (isTup [isP (chL n (vals xs)), isI 0]) := by
  refine Ctr.intro Try.func18 rfl (by kernel_rfl) Try.ntmps18 rfl fun w0 F0 => ?_
  refine Tri.cv (Cv.wk (.cons (t := 0) (Has.t rfl) .nil)) ?_
  have hfo := formB_true hn hn hl
  have hfs : (formB (n : Int) (n : Int) xs.length && decide ((n : Int) = (n : Int))) = true := by rw [hfo]; simp
  refine Tri.seq fun K1 hK1 => ?_
  refine Tri.region ?_
  refine Ops.box (Has.t rfl) rfl fun b1 => ?_
  refine st (OK1.as (Has.cWK (k := 2) (fk := zc))) rfl ?_
  refine st (OK1.as (Has.cI 0 rfl)) rfl ?_
  refine nl ?_
  refine At.thn (hK1 _ _ ?_); clear hK1
  refine Tri.seq fun K2 hK2 => ?_
  refine Tri.seq fun K3 hK3 => ?_
  refine Tri.region ?_
  refine st (OK1.load (Has.t rfl) (i := 0) rfl ty24 rfl (Ss' := [_, _, _]) rfl) rfl ?_
  refine st (OK1.eq (OK1.call (zchar_square) (.cons (Has.t rfl) .nil)) ((show isB _ = isB true from isB_eq (hfs)))) rfl ?_
  refine st (OK1.not (Has.t rfl)) rfl ?_
  refine nl ?_
  refine At.thn (hK3 _ _ ?_); clear hK3
  refine Tri.cond (Has.t rfl) (fun hc1 => ?_) (fun hc1 => ?_)
  · have hc1 := BP.t hc1
    exfalso; simp at hc1
  · have hc1 := BP.f hc1
    refine Tri.skip ?_
    refine At.thn (hK2 _ _ ?_); clear hK2
    refine Tri.seq fun K4 hK4 => ?_
    refine Tri.region ?_
    refine st (OK1.load (Has.t rfl) (i := 0) rfl ty24 rfl (Ss' := [_, _, _]) rfl) rfl ?_
    refine st (OK1.call (zchar_steps hx hB hn hl) (.cons (Has.t rfl) .nil)) rfl ?_
    refine st (OK1.mv (Has.t rfl)) rfl ?_
    refine st (OK1.ext (Has.t rfl) rfl) rfl ?_
    refine st (OK1.ext (Has.t rfl) rfl) rfl ?_
    refine Ops.alloc [isI 0, isI 0, nilS] zero24 (fun _ _ => ⟨⟨rfl, by decide, by decide⟩, ⟨rfl, by decide, by decide⟩, rfl, trivial⟩) rfl fun b2 => ?_
    refine st (OK1.as (Has.t rfl)) rfl ?_
    refine Ops.store (Has.t rfl) (Has.t rfl) (i := 0) rfl ty24 rfl rfl (Ss' := [_, _, _]) rfl (M' := [(some _, cellM [_, _, _]), _]) rfl ?_
    refine nl ?_
    refine At.thn (hK4 _ _ ?_); clear hK4
    refine Tri.cv (Cv.wk (.cons (t := 2) (Has.t rfl) (.cons (t := 3) (Has.t rfl) (.cons (t := 4) (Has.t rfl) .nil)))) ?_
    refine Tri.seq fun K5 hK5 => ?_
    refine Tri.region ?_
    refine st (OK1.mv (Has.t rfl)) rfl ?_
    refine st (OK1.as (Has.t rfl)) rfl ?_
    refine st (OK1.as (Has.cI 0 rfl)) rfl ?_
    refine nl ?_
    refine At.thn (hK5 _ _ ?_); clear hK5
    refine Tri.ret ?_
    refine rtN (.inl rfl) Try.results18 rfl rfl (.tmp (Has.t' rfl ?_) (.tmp (Has.t' rfl ?_) .nil))
    · rfl
    · rfl
set_option maxHeartbeats 4000000 in
theorem zchar_Char_bad {r c : Int} {xs : List (Bool × List Nat)} (hf : (formB r c xs.length && decide (r = c)) = false) : Ctr Try.prog 18 [isM r c xs] (isTup [SlK 2 zc ([] : List (Bool × List Nat)), isI 2]) := by
  refine Ctr.intro Try.func18 rfl (by kernel_rfl) Try.ntmps18 rfl fun w0 F0 => ?_
  refine Tri.cv (Cv.wk (.cons (t := 0) (Has.t rfl) .nil)) ?_
  refine Tri.seq fun K1 hK1 => ?_
  refine Tri.region ?_
  refine Ops.box (Has.t rfl) rfl fun b1 => ?_
  refine st (OK1.as (Has.cWK (k := 2) (fk := zc))) rfl ?_
  refine st (OK1.as (Has.cI 0 rfl)) rfl ?_
  refine nl ?_
  refine At.thn (hK1 _ _ ?_); clear hK1
  refine Tri.seq fun K2 hK2 => ?_
  refine Tri.seq fun K3 hK3 => ?_
  refine Tri.region ?_
  refine st (OK1.load (Has.t rfl) (i := 0) rfl ty24 rfl (Ss' := [_, _, _]) rfl) rfl ?_
  refine st (OK1.eq (OK1.call (zchar_square) (.cons (Has.t rfl) .nil)) ((show isB _ = isB false from isB_eq (hf)))) rfl ?_
  refine st (OK1.not (Has.t rfl)) rfl ?_
  refine nl ?_
  refine At.thn (hK3 _ _ ?_); clear hK3
  refine Tri.cond (Has.t rfl) (fun hc1 => ?_) (fun hc1 => ?_)
  · have hc1 := BP.t hc1
    refine Tri.seq fun K4 hK4 => ?_
    refine Tri.region ?_
    refine st (OK1.as (Has.cWK (k := 2) (fk := zc))) rfl ?_
    refine st (OK1.as (Has.cI 2 rfl)) rfl ?_
    refine nl ?_
    refine At.thn (hK4 _ _ ?_); clear hK4
    refine Tri.ret ?_
    refine At.thr ?_
    refine rtN (.inl rfl) Try.results18 rfl rfl (.tmp (Has.t' rfl ?_) (.tmp (Has.t' rfl ?_) .nil))
    · rfl
    · rfl
  · have hc1 := BP.f hc1
    exfalso; simp at hc1
end Go.Proofs.Ytgkbekcpmbjbdaa
/- Contracts: sums, differences, multiples of polynomials. -/
namespace Go.Proofs.Ytgkbekcpmbjbdaa
open Go.En Go.RowKit
set_option linter.unusedVariables false
set_option maxRecDepth 10000
open Go.Nt
open Go.Pz
set_option maxHeartbeats 4000000 in
theorem zpoly_both {op : Int → Int → Int} {xs ys : List (Bool × List Nat)} {K L : Nat} (hx : Bd (vals xs) K) (hy : Bd (vals ys) K) (hop : ∀ i, (List.length (words (op (cf (vals xs) i) (cf (vals ys) i)).natAbs)) ≤ L) (hL : L ≤ 4000000000) (h0 : op 0 0 = 0) (hn : xs.length ≤ 1000000) (hm : ys.length ≤ 1000000) : Ctr Try.prog 97 [SlK 2 zc xs, SlK 2 zc ys, isOp Try.prog K op] (isP (both op (vals xs) (vals ys))) := by
  refine Ctr.intro Try.func97 rfl (by kernel_rfl) Try.ntmps97 rfl fun w0 F0 => ?_
  refine Tri.cv (Cv.wk (.cons (t := 0) (Has.t rfl) (.cons (t := 1) (Has.t rfl) (.cons (t := 2) (Has.t rfl) .nil)))) ?_
  refine Tri.fact (Has.lenLt (Has.t (t := 0) rfl)) fun lt0 => ?_
  refine Tri.fact (Has.lenLt (Has.t (t := 1) rfl)) fun lt1 => ?_
  obtain ⟨F, hF⟩ : ∃ F, F = (List.range (max xs.length ys.length)).map fun i => op (cf (vals xs) i) (cf (vals ys) i) := ⟨_, rfl⟩
  have hFl : F.length = max xs.length ys.length := by rw [hF, List.length_map, List.length_range]
  have hFb : Bd F L := fun i => by
    rw [hF, cf_tab]
    split
    · exact hop i
    · rw [Int.natAbs_zero, words_zero]; exact Nat.zero_le _
  refine Tri.seq fun K1 hK1 => ?_
  refine Tri.region ?_
  refine st (OK1.as (Has.cWK (k := 2) (fk := zc))) rfl ?_
  refine nl ?_
  refine At.thn (hK1 _ _ ?_); clear hK1
  refine Tri.seq fun K2 hK2 => ?_
  refine Tri.region ?_
  refine st (OK1.mv (Has.t rfl)) rfl ?_
  refine st (OK1.len sl34 (Has.t rfl)) rfl ?_
  refine st (OK1.mv (Has.t rfl)) rfl ?_
  refine st (OK1.len sl34 (Has.t rfl)) rfl ?_
  refine st (OK1.eq (OK1.maxI (Has.t rfl) (Has.t rfl)) ((show isI _ = isI ((max xs.length ys.length : Nat) : Int) from isI_eq (by omega)))) rfl ?_
  refine Ops.makeK (fk := zc) (u := (false, [])) (n := max xs.length ys.length) (c := max xs.length ys.length) sl34 ty44 zero44 (fun _ _ => ⟨rfl, nilM _ _, trivial⟩) zc_len by44 (Has.t' rfl rfl) (Has.t' rfl rfl) ⟨by omega, by omega⟩ rfl fun b1 => ?_
  refine st (OK1.as (Has.t rfl)) rfl ?_
  refine nl ?_
  refine At.thn (hK2 _ _ ?_); clear hK2
  refine Tri.cv (Cv.wk (.cons (t := 0) (Has.t rfl) (.cons (t := 1) (Has.t rfl) (.cons (t := 2) (Has.t rfl) (.cons (t := 6) (Has.t rfl) (.cons (t := 7) (Has.t rfl) .nil)))))) ?_
  refine Tri.seq fun K3 hK3 => ?_
  refine Tri.seq fun K4 hK4 => ?_
  refine Tri.region ?_
  refine st (OK1.mv (Has.t rfl)) rfl ?_
  refine st (OK1.len sl34 (Has.t rfl)) rfl ?_
  refine st (OK1.mv (Has.cI 0 rfl)) rfl ?_
  refine nl ?_
  refine At.thn (hK4 _ _ ?_); clear hK4
  refine Tri.block ?_
  refine Tri.loopF [0, 1, 2, 6, 7, 16] (fun (z : { i : Nat // i ≤ max xs.length ys.length }) => match z with | ⟨i, hi⟩ => [(17, isI (i : Int))]) (fun M => fun (z : { i : Nat // i ≤ max xs.length ys.length }) => match z with | ⟨i, hi⟩ => [(some b1, cellM ((fill (F.map nz) i (false, [])).flatMap zc))]) (fun (z : { i : Nat // i ≤ max xs.length ys.length }) => match z with | ⟨i, hi⟩ => max xs.length ys.length - i) (⟨0, Nat.zero_le _⟩) (Cv.mem (.cons (t := 17) (Has.t' rfl ?_) (.cons (t := 0) (Has.t rfl) (.cons (t := 1) (Has.t rfl) (.cons (t := 2) (Has.t rfl) (.cons (t := 6) (Has.t rfl) (.cons (t := 7) (Has.t rfl) (.cons (t := 16) (Has.t rfl) .nil))))))) ?_) ?_
  · rfl
  · exact memZ_eq (by rw [fill_zero, List.length_map, hFl])
  rintro ⟨i, hi⟩ K5 hK5
  refine Tri.cv (Cv.wk (.cons (t := 17) (Has.t rfl) (.cons (t := 0) (Has.t rfl) (.cons (t := 1) (Has.t rfl) (.cons (t := 2) (Has.t rfl) (.cons (t := 6) (Has.t rfl) (.cons (t := 7) (Has.t rfl) (.cons (t := 16) (Has.t rfl) .nil)))))))) ?_
  refine Tri.memEq (M' := [(some b1, cellM ((fill (F.map nz) i (false, [])).flatMap zc))]) rfl ?_
  refine Tri.seq fun K6 hK6 => ?_
  refine Tri.region ?_
  refine st (OK1.ltI (Has.t rfl) (Has.t rfl)) rfl ?_
  refine nl ?_
  refine At.thn (hK6 _ _ ?_); clear hK6
  refine Tri.seq fun K7 hK7 => ?_
  refine Tri.cond (Has.t rfl) (fun hc1 => ?_) (fun hc1 => ?_)
  · have hc1 := BP.t hc1
    refine Tri.skip ?_
    refine At.thn (hK7 _ _ ?_); clear hK7
    refine Tri.seq fun K8 hK8 => ?_
    refine Tri.block ?_
    refine Tri.seq fun K9 hK9 => ?_
    refine Tri.region ?_
    refine st (OK1.mv (Has.t rfl)) rfl ?_
    refine st (OK1.as (Has.t rfl)) rfl ?_
    refine nl ?_
    refine At.thn (hK9 _ _ ?_); clear hK9
    refine Tri.region ?_
    refine st (OK1.mv (Has.t rfl)) rfl ?_
    refine st (OK1.mv (Has.t rfl)) rfl ?_
    refine st (OK1.mv (Has.t rfl)) rfl ?_
    refine st (OK1.mv (Has.t rfl)) rfl ?_
    refine st (OK1.mv (Has.t rfl)) rfl ?_
    refine st (OK1.call (zpoly_at) (.cons (Has.t rfl) (.cons (Has.t rfl) .nil))) rfl ?_
    refine st (OK1.mv (Has.t rfl)) rfl ?_
    refine st (OK1.mv (Has.t rfl)) rfl ?_
    refine st (OK1.call (zpoly_at) (.cons (Has.t rfl) (.cons (Has.t rfl) .nil))) rfl ?_
    refine st (OK1.eq (OK1.callV ⟨(xs.getD i (false, []), ys.getD i (false, [])), hx.raw i, hy.raw i⟩ (Has.t rfl) (.cons (Has.t rfl) (.cons (Has.t rfl) .nil))) ((show isZ _ = Flat (zc (nz (op (cf (vals xs) i) (cf (vals ys) i)))) from isZ_eq (by rw [cf_vals, cf_vals])))) rfl ?_
    refine st (OK1.eq (OK1.ixWin sl34 ty44 (Has.t rfl) (Has.t rfl) ⟨by omega, by omega⟩) (isPtr_eq (by first | exact ixo0 | exact ixo2 | exact ixo1))) rfl ?_
    refine Ops.storeK (z := nz (op (cf (vals xs) i) (cf (vals ys) i))) zc_len (Has.t rfl) (Has.t rfl) (i := 0) rfl ty44 (by rw [fill_len _ _ _ (by rw [List.length_map]; omega), List.length_map]; omega) (M' := [(_, _)]) rfl ?_
    refine nl ?_
    refine At.bln ?_
    refine At.thn (hK8 _ _ ?_); clear hK8
    refine Tri.region ?_
    refine st (OK1.addI (Has.t rfl) (Has.cI 1 rfl) (by first | omega | assumption) (by first | omega | assumption)) rfl ?_
    refine st (OK1.mv (Has.t rfl)) rfl ?_
    refine nl ?_
    refine At.thn ?_
    refine hK5 (⟨i + 1, by omega⟩) _ _ ?_ (Cv.mem (.cons (t := 17) (Has.t' rfl ?_) (.cons (t := 0) (Has.t rfl) (.cons (t := 1) (Has.t rfl) (.cons (t := 2) (Has.t rfl) (.cons (t := 6) (Has.t rfl) (.cons (t := 7) (Has.t rfl) (.cons (t := 16) (Has.t rfl) .nil))))))) ?_)
    · show max xs.length ys.length - (i + 1) < max xs.length ys.length - i; omega
    · exact isI_eq (by omega)
    · exact memF_eq (by rw [List.getElem?_map, hF, List.getElem?_map, List.getElem?_range (by omega)]; rfl)
  · have hc1 := BP.f hc1
    refine Tri.exit ?_
    refine At.the ?_
    refine At.the ?_
    refine At.blh ?_
    refine At.thn (hK3 _ _ ?_); clear hK3
    refine Tri.cv (Cv.wk (.cons (t := 6) (Has.t rfl) (.cons (t := 7) (Has.t rfl) .nil))) ?_
    refine Tri.seq fun K10 hK10 => ?_
    refine Tri.cv (Cv.freezeK (t := 7) (i := 0) (ys := F.map nz) zc_len rfl rfl rfl (by rw [fill_len _ _ _ (by rw [List.length_map]; omega), List.length_map]; omega) (fill_done (by rw [List.length_map]; omega) (by rw [List.length_map, hFl]))) ?_
    refine Tri.memEq (M' := []) rfl ?_
    refine Tri.cv (Cv.wk (.cons (t := 6) (Has.t rfl) (.cons (t := 7) (Has.t rfl) .nil))) ?_
    refine Tri.region ?_
    refine st (OK1.mv (Has.t rfl)) rfl ?_
    refine st (OK1.call (zpoly_Norm (K := L) (by rw [vals_nz]; exact hFb) hL (by rw [List.length_map]; omega)) (.cons (Has.t rfl) .nil)) rfl ?_
    refine st (OK1.as (Has.t rfl)) rfl ?_
    refine nl ?_
    refine At.thn (hK10 _ _ ?_); clear hK10
    refine Tri.ret ?_
    refine rt1 (.inl rfl) Try.results97 rfl (.tmp (Has.t' rfl ?_) .nil)
    all_goals (exact isP_eq (by rw [vals_nz, hF]; unfold both; rw [vals_len, vals_len]))
set_option maxHeartbeats 4000000 in
theorem zpoly_Sub {xs ys : List (Bool × List Nat)} {K : Nat} (hx : Bd (vals xs) K) (hy : Bd (vals ys) K) (hK : K ≤ 3000000000) (hn : xs.length ≤ 1000000) (hm : ys.length ≤ 1000000) : Ctr Try.prog 105 [SlK 2 zc xs, SlK 2 zc ys] (isP (psub (vals xs) (vals ys))) := by
  refine Ctr.intro Try.func105 rfl (by kernel_rfl) Try.ntmps105 rfl fun w0 F0 => ?_
  refine Tri.cv (Cv.wk (.cons (t := 0) (Has.t rfl) (.cons (t := 1) (Has.t rfl) .nil))) ?_
  refine Tri.fact (Has.lenLt (Has.t (t := 0) rfl)) fun lt0 => ?_
  refine Tri.fact (Has.lenLt (Has.t (t := 1) rfl)) fun lt1 => ?_
  refine Tri.seq fun K1 hK1 => ?_
  refine Tri.region ?_
  refine st (OK1.as (Has.cWK (k := 2) (fk := zc))) rfl ?_
  refine nl ?_
  refine At.thn (hK1 _ _ ?_); clear hK1
  refine Tri.seq fun K2 hK2 => ?_
  refine Tri.region ?_
  refine st (OK1.mv (Has.t rfl)) rfl ?_
  refine st (OK1.mv (Has.t rfl)) rfl ?_
  refine st (OK1.call (zpoly_both (op := fun x y => x - y) (L := K + 1) hx hy (fun i => by have := nz_sub (cf (vals xs) i) (cf (vals ys) i); have := hx i; have := hy i; show (List.length (words (cf (vals xs) i - cf (vals ys) i).natAbs)) ≤ K + 1; omega) (by omega) (by rfl) hn hm) (.cons (Has.t rfl) (.cons (Has.t rfl) (.cons (Has.fn (fun i => zint_Sub (by have := i.2.1; omega) (by have := i.2.2; omega))) .nil)))) rfl ?_
  refine st (OK1.as (Has.t rfl)) rfl ?_
  refine nl ?_
  refine At.thn (hK2 _ _ ?_); clear hK2
  refine Tri.cv (Cv.wk (.cons (t := 4) (Has.t rfl) .nil)) ?_
  refine Tri.ret ?_
  refine rt1 (.inl rfl) Try.results105 rfl (.tmp (Has.t' rfl ?_) .nil)
  all_goals (rfl)
set_option maxHeartbeats 4000000 in
theorem zpoly_Same {xs ys : List (Bool × List Nat)} {K : Nat} (hx : Bd (vals xs) K) (hy : Bd (vals ys) K) (hK : K ≤ 3000000000) (hn : xs.length ≤ 1000000) (hm : ys.length ≤ 1000000) : Ctr Try.prog 50 [SlK 2 zc xs, SlK 2 zc ys] (isB (decide (psub (vals xs) (vals ys) = []))) := by
  refine Ctr.intro Try.func50 rfl (by kernel_rfl) Try.ntmps50 rfl fun w0 F0 => ?_
  refine Tri.cv (Cv.wk (.cons (t := 0) (Has.t rfl) (.cons (t := 1) (Has.t rfl) .nil))) ?_
  refine Tri.fact (Has.lenLt (Has.t (t := 0) rfl)) fun lt0 => ?_
  refine Tri.fact (Has.lenLt (Has.t (t := 1) rfl)) fun lt1 => ?_
  refine Tri.seq fun K1 hK1 => ?_
  refine Tri.region ?_
  refine st (OK1.as (Has.cB false)) rfl ?_
  refine nl ?_
  refine At.thn (hK1 _ _ ?_); clear hK1
  refine Tri.seq fun K2 hK2 => ?_
  refine Tri.region ?_
  refine st (OK1.mv (Has.t rfl)) rfl ?_
  refine st (OK1.mv (Has.t rfl)) rfl ?_
  refine st (OK1.call (zpoly_Sub hx hy hK hn hm) (.cons (Has.t rfl) (.cons (Has.t rfl) .nil))) rfl ?_
  refine st (OK1.len sl34 (Has.t rfl)) rfl ?_
  refine st (OK1.eqI (Has.t rfl) (Has.cI 0 rfl)) rfl ?_
  refine st (OK1.as (Has.t rfl)) rfl ?_
  refine nl ?_
  refine At.thn (hK2 _ _ ?_); clear hK2
  refine Tri.cv (Cv.wk (.cons (t := 4) (Has.t rfl) .nil)) ?_
  refine Tri.ret ?_
  refine rt1 (.inl rfl) Try.results50 rfl (.tmp (Has.t' rfl ?_) .nil)
  all_goals (exact isB_eq (decide_eq_decide.2 (by rw [List.length_map]; exact ⟨fun h => List.eq_nil_of_length_eq_zero (by omega), fun h => by rw [h]; rfl⟩)))
end Go.Proofs.Ytgkbekcpmbjbdaa
/- Contracts: contents, values. -/
namespace Go.Proofs.Ytgkbekcpmbjbdaa
open Go.En Go.RowKit
set_option linter.unusedVariables false
set_option maxRecDepth 10000
open Go.Nt
open Go.Pz
set_option maxHeartbeats 4000000 in
theorem zpoly_Of {xs : List Int} (hn : xs.length ≤ 400000) : Ctr Try.prog 51 [SlM isI xs] (isP (pnorm xs)) := by
  refine Ctr.intro Try.func51 rfl (by kernel_rfl) Try.ntmps51 rfl fun w0 F0 => ?_
  refine Tri.cv (Cv.wk (.cons (t := 0) (Has.t rfl) .nil)) ?_
  refine Tri.fact (Has.lenLt (Has.t (t := 0) rfl)) fun lt0 => ?_
  refine Tri.fact (Has.okI (Has.t (t := 0) rfl)) fun hr => ?_
  refine Tri.seq fun K1 hK1 => ?_
  refine Tri.region ?_
  refine st (OK1.as (Has.cWK (k := 2) (fk := zc))) rfl ?_
  refine nl ?_
  refine At.thn (hK1 _ _ ?_); clear hK1
  refine Tri.seq fun K2 hK2 => ?_
  refine Tri.region ?_
  refine Ops.cv (Cv.grow0K (α := Bool × List Nat) zc) ?_
  refine st (OK1.as (Has.cGr (α := Bool × List Nat))) rfl ?_
  refine nl ?_
  refine At.thn (hK2 _ _ ?_); clear hK2
  refine Tri.seq fun K3 hK3 => ?_
  refine Tri.seq fun K4 hK4 => ?_
  refine Tri.region ?_
  refine st (OK1.mv (Has.t rfl)) rfl ?_
  refine st (OK1.len sl117 (Has.t rfl)) rfl ?_
  refine st (OK1.mv (Has.cI 0 rfl)) rfl ?_
  refine nl ?_
  refine At.thn (hK4 _ _ ?_); clear hK4
  refine Tri.block ?_
  refine Tri.loopF [2, 6, 7] (fun (z : { z : Nat × Gr (Bool × List Nat) // z.1 ≤ xs.length }) => match z with | ⟨(i, g), hI⟩ => [(8, isI (i : Int)), (3, isGr g ((xs.take i).map nz).length)]) (fun M => fun (z : { z : Nat × Gr (Bool × List Nat) // z.1 ≤ xs.length }) => match z with | ⟨(i, g), hI⟩ => [grMK zc g ((xs.take i).map nz)]) (fun (z : { z : Nat × Gr (Bool × List Nat) // z.1 ≤ xs.length }) => match z with | ⟨(i, g), hI⟩ => xs.length - i) (⟨(0, Gr.nil), Nat.zero_le _⟩) (Cv.mem (.cons (t := 8) (Has.t' rfl ?_) (.cons (t := 3) (Has.t' rfl ?_) (.cons (t := 2) (Has.t rfl) (.cons (t := 6) (Has.t rfl) (.cons (t := 7) (Has.t rfl) .nil))))) ?_) ?_
  · rfl
  · rfl
  · rfl
  rintro ⟨⟨i, g⟩, hI⟩ K5 hK5
  refine Tri.cv (Cv.wk (.cons (t := 8) (Has.t rfl) (.cons (t := 3) (Has.t rfl) (.cons (t := 2) (Has.t rfl) (.cons (t := 6) (Has.t rfl) (.cons (t := 7) (Has.t rfl) .nil)))))) ?_
  refine Tri.memEq (M' := [grMK zc g ((xs.take i).map nz)]) rfl ?_
  simp only [] at hI
  have hyl : ((xs.take i).map nz).length = i := by rw [List.length_map, List.length_take]; omega
  refine Tri.seq fun K6 hK6 => ?_
  refine Tri.region ?_
  refine st (OK1.ltI (Has.t rfl) (Has.t rfl)) rfl ?_
  refine nl ?_
  refine At.thn (hK6 _ _ ?_); clear hK6
  refine Tri.seq fun K7 hK7 => ?_
  refine Tri.cond (Has.t rfl) (fun hc1 => ?_) (fun hc1 => ?_)
  · have hc1 := BP.t hc1
    refine Tri.skip ?_
    refine At.thn (hK7 _ _ ?_); clear hK7
    refine Tri.seq fun K8 hK8 => ?_
    refine Tri.block ?_
    refine Tri.seq fun K9 hK9 => ?_
    refine Tri.region ?_
    refine st (OK1.ixP sl117 ty2 (Has.t rfl) (Has.t rfl) ⟨by omega, by omega⟩ (getD_some (d := 0) (by first | omega | (simp only [Int.toNat_natCast, List.length_set]; omega)))) rfl ?_
    refine st (OK1.loadP1 (Has.t rfl) ty2) rfl ?_
    refine st (OK1.as (Has.t rfl)) rfl ?_
    refine nl ?_
    refine At.thn (hK9 _ _ ?_); clear hK9
    refine Tri.region ?_
    refine st (OK1.mv (Has.t rfl)) rfl ?_
    refine st (OK1.mv (Has.t rfl)) rfl ?_
    refine st (OK1.eq (OK1.call (zint_Of) (.cons (Has.t rfl) .nil)) ((show isZ _ = Flat (zc (nz (cf xs i))) from rfl))) rfl ?_
    refine st (OK1.buildS [isB false, SlM isU []] sl34 ty44 zero44 (fun _ _ => ⟨rfl, nilM _ _, trivial⟩) rfl rfl (.cons (Has.t rfl) rfl rfl rfl .nil) rfl (S := SlK 2 zc [nz (cf xs i)]) rfl) rfl ?_
    refine Ops.appendGK (fk := zc) (u := (false, [])) zc_len (by decide) (fun _ => inferInstance) sl34 ty44 zero44 (fun _ _ => ⟨rfl, nilM _ _, trivial⟩) by44 (Has.t rfl) (i := 0) rfl (Has.t rfl) (by rw [hyl]; show i + 1 ≤ _; omega) (by simp) rfl fun gr1 => ?_
    refine Ops.memEq (M' := [grMK _ _ _]) rfl ?_
    refine st (OK1.as (Has.t rfl)) rfl ?_
    refine nl ?_
    refine At.bln ?_
    refine At.thn (hK8 _ _ ?_); clear hK8
    refine Tri.region ?_
    refine st (OK1.addI (Has.t rfl) (Has.cI 1 rfl) (by first | omega | assumption) (by first | omega | assumption)) rfl ?_
    refine st (OK1.mv (Has.t rfl)) rfl ?_
    refine nl ?_
    refine At.thn ?_
    refine hK5 (⟨(i + 1, gr1), by show i + 1 ≤ _; omega⟩) _ _ ?_ (Cv.mem (.cons (t := 8) (Has.t' rfl ?_) (.cons (t := 3) (Has.t' rfl ?_) (.cons (t := 2) (Has.t rfl) (.cons (t := 6) (Has.t rfl) (.cons (t := 7) (Has.t rfl) .nil))))) ?_)
    · show xs.length - (i + 1) < xs.length - i; omega
    · exact isI_eq (by omega)
    · exact isGr_eq (by rw [← take_map_succ _ _ (by omega), List.length_append])
    · exact grMK_eq (take_map_succ _ _ (by omega))
  · have hc1 := BP.f hc1
    refine Tri.exit ?_
    refine At.the ?_
    refine At.the ?_
    refine At.blh ?_
    refine At.thn (hK3 _ _ ?_); clear hK3
    refine Tri.seq fun K10 hK10 => ?_
    refine Tri.cv (Cv.freezeGK (t := 3) (i := 0) (ys := (xs.take i).map nz) zc_len rfl rfl rfl) ?_
    refine Tri.memEq (M' := []) rfl ?_
    refine Tri.cv (Cv.wk (.cons (t := 2) (Has.t rfl) (.cons (t := 6) (Has.t rfl) (.cons (t := 7) (Has.t rfl) (.cons (t := 8) (Has.t rfl) (.cons (t := 3) (Has.t rfl) (.cons (t := 9) (Has.t rfl) .nil))))))) ?_
    refine Tri.region ?_
    refine st (OK1.mv (Has.t rfl)) rfl ?_
    refine st (OK1.call (zpoly_Norm (K := 1) (by rw [vals_nz, show xs.take i = xs from List.take_of_length_le (by omega)]; exact bd64 hr) (by omega) (by rw [List.length_map, List.length_take]; omega)) (.cons (Has.t rfl) .nil)) rfl ?_
    refine st (OK1.as (Has.t rfl)) rfl ?_
    refine nl ?_
    refine At.thn (hK10 _ _ ?_); clear hK10
    refine Tri.cv (Cv.wk (.cons (t := 2) (Has.t rfl) .nil)) ?_
    refine Tri.ret ?_
    refine rt1 (.inl rfl) Try.results51 rfl (.tmp (Has.t' rfl ?_) .nil)
    all_goals (exact isP_eq (by rw [vals_nz, show xs.take i = xs from List.take_of_length_le (by omega)]))
end Go.Proofs.Ytgkbekcpmbjbdaa
/- Polynomials over the whole numbers: what the document's answers are. No program here, but the numbers' cells. -/
namespace Go.Pz
open Go.Nt Go.En
def radd (a b : List Int) : List Int := (List.range (max a.length b.length)).map fun i => cf a i + cf b i
theorem radd_len (a b : List Int) : (radd a b).length = max a.length b.length := by unfold radd; rw [List.length_map, List.length_range]
theorem cf_radd (a b : List Int) (i : Nat) : cf (radd a b) i = cf a i + cf b i := by
  unfold radd
  rw [cf_tab]
  split
  · rfl
  · rw [cf_high (l := a) (by omega), cf_high (l := b) (by omega)]; rfl
def rmul (a b : List Int) : List Int := (List.range (a.length + b.length)).map fun n => mul (cf a) (cf b) n
theorem rmul_len (a b : List Int) : (rmul a b).length = a.length + b.length := by unfold rmul; rw [List.length_map, List.length_range]
theorem cf_rmul (a b : List Int) (i : Nat) : cf (rmul a b) i = mul (cf a) (cf b) i := by
  unfold rmul
  rw [cf_tab]
  split
  · rfl
  · exact (mul_high (A := a.length) (B := b.length) (fun i hi => cf_high hi) (fun i hi => cf_high hi) (by omega)).symm
theorem Bd.radd {a b : List Int} {K : Nat} (h : Bd a K) (k : Bd b K) : Bd (radd a b) (K + 1) := fun i => by
  rw [cf_radd]; have := nz_add (cf a i) (cf b i); have := h i; have := k i; omega
theorem Bd.rmul {a b : List Int} {K L : Nat} (h : Bd a K) (k : Bd b L) : Bd (rmul a b) (K + L + a.length) := fun i => by
  rw [cf_rmul, ← cf_pmul]; exact (Bd.mul h k) i
theorem rows_step (f g : Nat → Int) (k i : Nat) (h : k ≤ i) : rows f g k i + f k * g (i - k) = rows f g (k + 1) i := by
  show _ = rows f g k i + if k ≤ i then _ else _
  rw [if_pos h]
theorem rows_full (f g : Nat → Int) (i : Nat) : rows f g (i + 1) i = mul f g i := (mul_rows i f g).symm
/-- normal, and the same -/
def isB2 (l m : List Int) : Bool := decide (pnorm l = l) && decide (psub l m = [])
theorem isB2_true {l m : List Int} (hn : pnorm l = l) (h : ∀ i, cf l i = cf m i) : isB2 l m = true := by
  unfold isB2; rw [decide_eq_true hn, decide_eq_true (sub_nil.2 h)]; rfl
theorem same_not {a b : List Int} {i : Nat} (h : ¬ cf a i = cf b i) : decide (psub a b = []) = false := decide_eq_false fun e => h (sub_nil.1 e i)
theorem same_yes {a b : List Int} {n : Nat} (h : ∀ i, i < n → cf a i = cf b i) (ha : a.length ≤ n) (hb : b.length ≤ n) : decide (psub a b = []) = true :=
  decide_eq_true (sub_nil.2 fun i => by
    rcases Nat.lt_or_ge i n with hi | hi
    · exact h i hi
    · rw [cf_high (l := a) (by omega), cf_high (l := b) (by omega)])
theorem normal_iff {l : List Int} : pnorm l = l ↔ l = [] ∨ cf l (l.length - 1) ≠ 0 := by
  constructor
  · intro h
    rcases Classical.em (l = []) with e | e
    · exact .inl e
    · right
      have := norm_last (l := l) (by rw [h]; exact e)
      rwa [h] at this
  · rintro (rfl | h)
    · rfl
    · have := take_norm (l := l) (n := l.length) (.inr h) (fun i hi => cf_high hi)
      rw [List.take_length] at this
      exact this.symm
theorem normal_dead {z : Int} (h : (0 < (((List.length (words z.natAbs)) : Nat) : Int) ∧ dig z.natAbs ((List.length (words z.natAbs)) - 1) = 0) ∨ ((((List.length (words z.natAbs)) : Nat) : Int) = 0 ∧ z < 0)) : False := by
  rcases h with ⟨h1, h2⟩ | ⟨h1, h2⟩
  · refine dig_top (n := z.natAbs) (fun e => ?_) h2
    rw [e, words_zero] at h1; exact absurd h1 (by decide)
  · have := nw_lt z.natAbs
    rw [show (List.length (words z.natAbs)) = 0 by omega, Nat.pow_zero] at this
    omega
theorem normal_end (l : List Int) : (decide (((l.map nz).length : Int) = 0) || !decide (sgn (cf l (l.length - 1)) = 0)) = decide (pnorm l = l) := by
  have h : (decide (pnorm l = l) = true) ↔ (decide (((l.map nz).length : Int) = 0) || !decide (sgn (cf l (l.length - 1)) = 0)) = true := by
    rw [decide_eq_true_eq, normal_iff, Bool.or_eq_true, decide_eq_true_eq, List.length_map, Bool.not_eq_true', decide_eq_false_iff_not, sgn_eq0]
    exact or_congr ⟨fun h => by rw [h]; rfl, fun h => List.eq_nil_of_length_eq_zero (by omega)⟩ Iff.rfl
  exact (Bool.eq_iff_iff.2 h).symm
/-- lists of a size that is looked at -/
def fewB (xs : List (Bool × List Nat)) (n w : Int) : Bool := (xs.take 100).all (fun p => decide ((p.2.length : Int) ≤ w)) && decide ((xs.length : Int) ≤ n)
theorem fewB_no {xs : List (Bool × List Nat)} {n w : Int} {i : Nat} (hi : i < xs.length) (h1 : i < 100) (h : ¬ ((xs.getD i (false, [])).2.length : Int) ≤ w) : fewB xs n w = false := by
  unfold fewB
  have hm : xs.getD i (false, []) ∈ xs.take 100 := by
    rw [List.getD, List.getElem?_eq_getElem hi]
    exact List.mem_take_iff_getElem.2 ⟨i, by omega, rfl⟩
  have : (xs.take 100).all (fun p => decide ((p.2.length : Int) ≤ w)) = false := by
    rw [List.all_eq_false]
    exact ⟨_, hm, by rw [decide_eq_true_eq]; exact h⟩
  rw [this]; rfl
theorem fewB_yes {xs : List (Bool × List Nat)} {n w : Int} {i : Nat} (hi : xs.length ≤ i ∨ 100 ≤ i) (h : ∀ j, j < i → ((xs.getD j (false, [])).2.length : Int) ≤ w) : fewB xs n w = decide ((xs.length : Int) ≤ n) := by
  unfold fewB
  have : (xs.take 100).all (fun p => decide ((p.2.length : Int) ≤ w)) = true := by
    rw [List.all_eq_true]
    intro p hp
    obtain ⟨j, hj, rfl⟩ := List.mem_take_iff_getElem.1 hp
    have := h j (by omega)
    rw [List.getD, List.getElem?_eq_getElem (by omega)] at this
    exact decide_eq_true this
  rw [this]; rfl
theorem fewB_bd {xs : List (Bool × List Nat)} {n w : Int} {N K : Nat} (ok : ∀ p ∈ xs, (∀ y ∈ p.2, y < 18446744073709551616) ∧ p.2.length ≤ 9223372036854775807) (h : fewB xs n w = true) (hn : n = (N : Int)) (hw : w = (K : Int)) (h1 : N ≤ 100) : xs.length ≤ N ∧ Bd (vals xs) K := by
  unfold fewB at h
  rw [Bool.and_eq_true, decide_eq_true_eq, List.all_eq_true] at h
  subst hn; subst hw
  refine ⟨by omega, fun i => ?_⟩
  rw [cf_vals, zv_nw]
  rcases Nat.lt_or_ge i xs.length with hi | hi
  · rw [List.getD, List.getElem?_eq_getElem hi]
    have h2 := h.1 xs[i] (List.mem_take_iff_getElem.2 ⟨i, by omega, rfl⟩)
    rw [decide_eq_true_eq] at h2
    exact Nat.le_trans (nw_val (ok _ (List.getElem_mem hi)).1) (by show xs[i].2.length ≤ K; omega)
  · rw [List.getD, List.getElem?_eq_none (by omega)]
    show (List.length (words (val []))) ≤ K
    rw [show val [] = 0 from rfl, words_zero]; exact Nat.zero_le _
end Go.Pz
/- Contracts: the document's answers on polynomials. -/
namespace Go.Proofs.Ytgkbekcpmbjbdaa
open Go.En Go.RowKit
set_option linter.unusedVariables false
set_option maxRecDepth 10000
open Go.Nt
open Go.Pz
set_option maxHeartbeats 4000000 in
theorem ref10_at {xs : List (Bool × List Nat)} {i : Nat} : Ctr Try.prog 124 [SlK 2 zc xs, isI (i : Int)] (Flat (zc (xs.getD i (false, [])))) := by
  refine Ctr.intro Try.func124 rfl (by kernel_rfl) Try.ntmps124 rfl fun w0 F0 => ?_
  refine Tri.cv (Cv.wk (.cons (t := 0) (Has.t rfl) (.cons (t := 1) (Has.t rfl) .nil))) ?_
  refine Tri.fact (Has.lenLt (Has.t (t := 0) rfl)) fun lt0 => ?_
  refine Tri.fact (Has.rngI (Has.t (t := 1) rfl)) fun lt1 => ?_
  refine Tri.seq fun K1 hK1 => ?_
  refine Tri.region ?_
  refine Ops.alloc [isB false, SlM isU []] zero44 (fun _ _ => ⟨rfl, nilM _ _, trivial⟩) rfl fun b1 => ?_
  refine nl ?_
  refine At.thn (hK1 _ _ ?_); clear hK1
  refine Tri.seq fun K2 hK2 => ?_
  refine Tri.seq fun K3 hK3 => ?_
  refine Tri.region ?_
  refine st (OK1.mv (Has.t rfl)) rfl ?_
  refine st (OK1.geI (Has.t rfl) (Has.cI 0 rfl)) rfl ?_
  refine st (OK1.mv (Has.t rfl)) rfl ?_
  refine stT rfl rfl (fun hg => have hg' := BP.t hg; OK1.mv (Has.t rfl)) rfl ?_
  refine stT rfl rfl (fun hg => have hg' := BP.t hg; OK1.mv (Has.t rfl)) rfl ?_
  refine stT rfl rfl (fun hg => have hg' := BP.t hg; OK1.len sl22 (Has.g rfl hg)) rfl ?_
  refine stT rfl rfl (fun hg => have hg' := BP.t hg; OK1.ltI (Has.g rfl hg) (Has.g rfl hg)) rfl ?_
  refine st (OK1.pickAnd (Has.t rfl) (fun h => Has.g rfl h)) rfl ?_
  refine nl ?_
  refine At.thn (hK3 _ _ ?_); clear hK3
  refine Tri.cv (Cv.wk (.cons (t := 0) (Has.t rfl) (.cons (t := 1) (Has.t rfl) (.cons (t := 4) (Has.t rfl) (.cons (t := 12) (Has.t rfl) .nil))))) ?_
  refine Tri.cond (Has.t rfl) (fun hc1 => ?_) (fun hc1 => ?_)
  · have hc1 := BP.t hc1
    refine Tri.seq fun K4 hK4 => ?_
    refine Tri.region ?_
    refine st (OK1.mv (Has.t rfl)) rfl ?_
    refine st (OK1.mv (Has.t rfl)) rfl ?_
    refine st (OK1.ixK sl22 ty44 (Has.t rfl) (Has.t rfl) zc_len ⟨by omega, by omega⟩ (getD_some (d := (false, [])) (by first | omega | (simp only [Int.toNat_natCast, List.length_set]; omega)))) rfl ?_
    refine st (OK1.loadP (Has.t rfl) ty44 rfl (Ss' := [_, _]) rfl) rfl ?_
    refine Ops.store (Has.t rfl) (Has.t rfl) (i := 0) rfl ty44 rfl rfl (Ss' := [_, _]) rfl (M' := [(some _, cellM [_, _])]) rfl ?_
    refine nl ?_
    refine At.thn (hK4 _ _ ?_); clear hK4
    refine Tri.cv (Cv.wk (.cons (t := 4) (Has.t rfl) .nil)) ?_
    refine Tri.ret ?_
    refine At.thr ?_
    refine rt1 (.inl rfl) Try.results124 rfl (.cell rfl (i := 0) rfl ty44 rfl ?_ .nil)
    all_goals (rfl)
  · have hc1 := BP.f hc1
    refine Tri.skip ?_
    refine At.thn (hK2 _ _ ?_); clear hK2
    refine Tri.seq fun K5 hK5 => ?_
    refine Tri.region ?_
    refine st (OK1.call (zint_Of) (.cons (Has.cI 0 rfl) .nil)) rfl ?_
    refine Ops.store (Has.t rfl) (Has.t rfl) (i := 0) rfl ty44 rfl rfl (Ss' := [_, _]) rfl (M' := [(some _, cellM [_, _])]) rfl ?_
    refine nl ?_
    refine At.thn (hK5 _ _ ?_); clear hK5
    refine Tri.ret ?_
    refine rt1 (.inl rfl) Try.results124 rfl (.cell rfl (i := 0) rfl ty44 rfl ?_ .nil)
    all_goals (exact isZ0.symm.trans (congrArg Flat (show zc (false, []) = _ by rw [List.getD, List.getElem?_eq_none (by omega)]; rfl)))
set_option maxHeartbeats 4000000 in
theorem ref10_Add {xs ys : List (Bool × List Nat)} {K : Nat} (hx : Bd (vals xs) K) (hy : Bd (vals ys) K) (hK : K ≤ 400000000) (hn : xs.length ≤ 400000) (hm : ys.length ≤ 400000) : Ctr Try.prog 120 [SlK 2 zc xs, SlK 2 zc ys] (isP (radd (vals xs) (vals ys))) := by
  refine Ctr.intro Try.func120 rfl (by kernel_rfl) Try.ntmps120 rfl fun w0 F0 => ?_
  refine Tri.cv (Cv.wk (.cons (t := 0) (Has.t rfl) (.cons (t := 1) (Has.t rfl) .nil))) ?_
  refine Tri.fact (Has.lenLt (Has.t (t := 0) rfl)) fun lt0 => ?_
  refine Tri.fact (Has.lenLt (Has.t (t := 1) rfl)) fun lt1 => ?_
  have hvx := vals_len xs
  have hvy := vals_len ys
  obtain ⟨F, hF⟩ : ∃ F, F = radd (vals xs) (vals ys) := ⟨_, rfl⟩
  have hFl : F.length = max xs.length ys.length := by rw [hF, radd_len, hvx, hvy]
  refine Tri.seq fun K1 hK1 => ?_
  refine Tri.region ?_
  refine st (OK1.as (Has.cWK (k := 2) (fk := zc))) rfl ?_
  refine nl ?_
  refine At.thn (hK1 _ _ ?_); clear hK1
  refine Tri.seq fun K2 hK2 => ?_
  refine Tri.region ?_
  refine Ops.cv (Cv.grow0K (α := Bool × List Nat) zc) ?_
  refine st (OK1.as (Has.cGr (α := Bool × List Nat))) rfl ?_
  refine nl ?_
  refine At.thn (hK2 _ _ ?_); clear hK2
  refine Tri.seq fun K3 hK3 => ?_
  refine Tri.seq fun K4 hK4 => ?_
  refine Tri.region ?_
  refine st (OK1.as (Has.cI 0 rfl)) rfl ?_
  refine nl ?_
  refine At.thn (hK4 _ _ ?_); clear hK4
  refine Tri.block ?_
  refine Tri.loopF [0, 1, 4] (fun (z : { z : Nat × Gr (Bool × List Nat) // z.1 ≤ F.length }) => match z with | ⟨(i, g), hI⟩ => [(6, isI (i : Int)), (5, isGr g ((F.take i).map nz).length)]) (fun M => fun (z : { z : Nat × Gr (Bool × List Nat) // z.1 ≤ F.length }) => match z with | ⟨(i, g), hI⟩ => [grMK zc g ((F.take i).map nz)]) (fun (z : { z : Nat × Gr (Bool × List Nat) // z.1 ≤ F.length }) => match z with | ⟨(i, g), hI⟩ => F.length - i) (⟨(0, Gr.nil), Nat.zero_le _⟩) (Cv.mem (.cons (t := 6) (Has.t' rfl ?_) (.cons (t := 5) (Has.t' rfl ?_) (.cons (t := 0) (Has.t rfl) (.cons (t := 1) (Has.t rfl) (.cons (t := 4) (Has.t rfl) .nil))))) ?_) ?_
  · rfl
  · rfl
  · rfl
  rintro ⟨⟨i, g⟩, hI⟩ K5 hK5
  refine Tri.cv (Cv.wk (.cons (t := 6) (Has.t rfl) (.cons (t := 5) (Has.t rfl) (.cons (t := 0) (Has.t rfl) (.cons (t := 1) (Has.t rfl) (.cons (t := 4) (Has.t rfl) .nil)))))) ?_
  refine Tri.memEq (M' := [grMK zc g ((F.take i).map nz)]) rfl ?_
  simp only [] at hI
  have hyl : ((F.take i).map nz).length = i := by rw [List.length_map, List.length_take]; omega
  refine Tri.seq fun K6 hK6 => ?_
  refine Tri.seq fun K7 hK7 => ?_
  refine Tri.region ?_
  refine st (OK1.mv (Has.t rfl)) rfl ?_
  refine st (OK1.mv (Has.t rfl)) rfl ?_
  refine st (OK1.len sl22 (Has.t rfl)) rfl ?_
  refine st (OK1.ltI (Has.t rfl) (Has.t rfl)) rfl ?_
  refine st (OK1.mv (Has.t rfl)) rfl ?_
  refine stF rfl rfl (fun hg => have hg' := BP.t hg; OK1.mv (Has.t rfl)) rfl ?_
  refine stF rfl rfl (fun hg => have hg' := BP.t hg; OK1.mv (Has.t rfl)) rfl ?_
  refine stF rfl rfl (fun hg => have hg' := BP.t hg; OK1.len sl22 (Has.g rfl hg)) rfl ?_
  refine stF rfl rfl (fun hg => have hg' := BP.t hg; OK1.ltI (Has.g rfl hg) (Has.g rfl hg)) rfl ?_
  refine st (OK1.pickOr (Has.t rfl) (fun h => Has.g rfl (ng h))) rfl ?_
  refine nl ?_
  refine At.thn (hK7 _ _ ?_); clear hK7
  refine Tri.cond (Has.t rfl) (fun hc1 => ?_) (fun hc1 => ?_)
  · have hc1 := BP.t hc1
    refine Tri.skip ?_
    refine At.thn (hK6 _ _ ?_); clear hK6
    refine Tri.seq fun K8 hK8 => ?_
    refine Tri.block ?_
    refine Tri.region ?_
    refine st (OK1.mv (Has.t rfl)) rfl ?_
    refine st (OK1.mv (Has.t rfl)) rfl ?_
    refine st (OK1.mv (Has.t rfl)) rfl ?_
    refine st (OK1.call (ref10_at) (.cons (Has.t rfl) (.cons (Has.t rfl) .nil))) rfl ?_
    refine st (OK1.mv (Has.t rfl)) rfl ?_
    refine st (OK1.mv (Has.t rfl)) rfl ?_
    refine st (OK1.call (ref10_at) (.cons (Has.t rfl) (.cons (Has.t rfl) .nil))) rfl ?_
    refine st (OK1.eq (OK1.call (zint_Add (by have := hx.raw i; omega) (by have := hy.raw i; omega)) (.cons (Has.t rfl) (.cons (Has.t rfl) .nil))) ((show isZ _ = Flat (zc (nz (cf F i))) from isZ_eq (by rw [hF, cf_radd, cf_vals, cf_vals])))) rfl ?_
    refine st (OK1.buildS [isB false, SlM isU []] sl22 ty44 zero44 (fun _ _ => ⟨rfl, nilM _ _, trivial⟩) rfl rfl (.cons (Has.t rfl) rfl rfl rfl .nil) rfl (S := SlK 2 zc [nz (cf F i)]) rfl) rfl ?_
    refine Ops.appendGK (fk := zc) (u := (false, [])) zc_len (by decide) (fun _ => inferInstance) sl22 ty44 zero44 (fun _ _ => ⟨rfl, nilM _ _, trivial⟩) by44 (Has.t rfl) (i := 0) rfl (Has.t rfl) (by rw [hyl]; show i + 1 ≤ _; omega) (by simp) rfl fun gr1 => ?_
    refine Ops.memEq (M' := [grMK _ _ _]) rfl ?_
    refine st (OK1.as (Has.t rfl)) rfl ?_
    refine nl ?_
    refine At.bln ?_
    refine At.thn (hK8 _ _ ?_); clear hK8
    refine Tri.region ?_
    refine st (OK1.mv (Has.t rfl)) rfl ?_
    refine st (OK1.addI (Has.t rfl) (Has.cI 1 rfl) (by first | omega | assumption) (by first | omega | assumption)) rfl ?_
    refine st (OK1.as (Has.t rfl)) rfl ?_
    refine nl ?_
    refine At.thn ?_
    refine hK5 (⟨(i + 1, gr1), by show i + 1 ≤ _; omega⟩) _ _ ?_ (Cv.mem (.cons (t := 6) (Has.t' rfl ?_) (.cons (t := 5) (Has.t' rfl ?_) (.cons (t := 0) (Has.t rfl) (.cons (t := 1) (Has.t rfl) (.cons (t := 4) (Has.t rfl) .nil))))) ?_)
    · show F.length - (i + 1) < F.length - i; omega
    · exact isI_eq (by omega)
    · exact isGr_eq (by rw [← take_map_succ _ _ (by omega), List.length_append])
    · exact grMK_eq (take_map_succ _ _ (by omega))
  · have hc1 := BP.f hc1
    refine Tri.exit ?_
    refine At.the ?_
    refine At.the ?_
    refine At.blh ?_
    refine At.thn (hK3 _ _ ?_); clear hK3
    refine Tri.cv (Cv.wk (.cons (t := 4) (Has.t rfl) (.cons (t := 5) (Has.t rfl) .nil))) ?_
    refine Tri.seq fun K9 hK9 => ?_
    refine Tri.cv (Cv.freezeGK (t := 5) (i := 0) (ys := (F.take i).map nz) zc_len rfl rfl rfl) ?_
    refine Tri.memEq (M' := []) rfl ?_
    refine Tri.cv (Cv.wk (.cons (t := 4) (Has.t rfl) (.cons (t := 5) (Has.t rfl) .nil))) ?_
    refine Tri.region ?_
    refine st (OK1.mv (Has.t rfl)) rfl ?_
    refine st (OK1.as (Has.t rfl)) rfl ?_
    refine nl ?_
    refine At.thn (hK9 _ _ ?_); clear hK9
    refine Tri.ret ?_
    refine rt1 (.inl rfl) Try.results120 rfl (.tmp (Has.t' rfl ?_) .nil)
    all_goals (exact isP_eq (by rw [List.take_of_length_le (by omega), hF]))
set_option maxHeartbeats 4000000 in
theorem ref10_Mul {xs ys : List (Bool × List Nat)} {K L : Nat} (hx : Bd (vals xs) K) (hy : Bd (vals ys) L) (hK : K ≤ 400000000) (hL : L ≤ 400000000) (hn : xs.length ≤ 400000) (hm : ys.length ≤ 400000) : Ctr Try.prog 119 [SlK 2 zc xs, SlK 2 zc ys] (isP (rmul (vals xs) (vals ys))) := by
  refine Ctr.intro Try.func119 rfl (by kernel_rfl) Try.ntmps119 rfl fun w0 F0 => ?_
  refine Tri.cv (Cv.wk (.cons (t := 0) (Has.t rfl) (.cons (t := 1) (Has.t rfl) .nil))) ?_
  refine Tri.fact (Has.lenLt (Has.t (t := 0) rfl)) fun lt0 => ?_
  refine Tri.fact (Has.lenLt (Has.t (t := 1) rfl)) fun lt1 => ?_
  have hvx := vals_len xs
  have hvy := vals_len ys
  obtain ⟨F, hF⟩ : ∃ F, F = rmul (vals xs) (vals ys) := ⟨_, rfl⟩
  have hFl : F.length = xs.length + ys.length := by rw [hF, rmul_len, hvx, hvy]
  refine Tri.seq fun K1 hK1 => ?_
  refine Tri.region ?_
  refine st (OK1.as (Has.cWK (k := 2) (fk := zc))) rfl ?_
  refine nl ?_
  refine At.thn (hK1 _ _ ?_); clear hK1
  refine Tri.seq fun K2 hK2 => ?_
  refine Tri.region ?_
  refine Ops.cv (Cv.grow0K (α := Bool × List Nat) zc) ?_
  refine st (OK1.as (Has.cGr (α := Bool × List Nat))) rfl ?_
  refine nl ?_
  refine At.thn (hK2 _ _ ?_); clear hK2
  refine Tri.seq fun K3 hK3 => ?_
  refine Tri.seq fun K4 hK4 => ?_
  refine Tri.region ?_
  refine st (OK1.as (Has.cI 0 rfl)) rfl ?_
  refine nl ?_
  refine At.thn (hK4 _ _ ?_); clear hK4
  refine Tri.block ?_
  refine Tri.loopF [0, 1, 4] (fun (z : { z : Nat × Gr (Bool × List Nat) // z.1 ≤ F.length }) => match z with | ⟨(i, g), hI⟩ => [(6, isI (i : Int)), (5, isGr g ((F.take i).map nz).length)]) (fun M => fun (z : { z : Nat × Gr (Bool × List Nat) // z.1 ≤ F.length }) => match z with | ⟨(i, g), hI⟩ => [grMK zc g ((F.take i).map nz)]) (fun (z : { z : Nat × Gr (Bool × List Nat) // z.1 ≤ F.length }) => match z with | ⟨(i, g), hI⟩ => F.length - i) (⟨(0, Gr.nil), Nat.zero_le _⟩) (Cv.mem (.cons (t := 6) (Has.t' rfl ?_) (.cons (t := 5) (Has.t' rfl ?_) (.cons (t := 0) (Has.t rfl) (.cons (t := 1) (Has.t rfl) (.cons (t := 4) (Has.t rfl) .nil))))) ?_) ?_
  · rfl
  · rfl
  · rfl
  rintro ⟨⟨i, g⟩, hI⟩ K5 hK5
  refine Tri.cv (Cv.wk (.cons (t := 6) (Has.t rfl) (.cons (t := 5) (Has.t rfl) (.cons (t := 0) (Has.t rfl) (.cons (t := 1) (Has.t rfl) (.cons (t := 4) (Has.t rfl) .nil)))))) ?_
  refine Tri.memEq (M' := [grMK zc g ((F.take i).map nz)]) rfl ?_
  simp only [] at hI
  have hyl : ((F.take i).map nz).length = i := by rw [List.length_map, List.length_take]; omega
  refine Tri.seq fun K6 hK6 => ?_
  refine Tri.seq fun K7 hK7 => ?_
  refine Tri.region ?_
  refine st (OK1.mv (Has.t rfl)) rfl ?_
  refine st (OK1.mv (Has.t rfl)) rfl ?_
  refine st (OK1.len sl22 (Has.t rfl)) rfl ?_
  refine st (OK1.mv (Has.t rfl)) rfl ?_
  refine st (OK1.len sl22 (Has.t rfl)) rfl ?_
  refine st (OK1.addI (Has.t rfl) (Has.t rfl) (by first | omega | assumption) (by first | omega | assumption)) rfl ?_
  refine st (OK1.ltI (Has.t rfl) (Has.t rfl)) rfl ?_
  refine nl ?_
  refine At.thn (hK7 _ _ ?_); clear hK7
  refine Tri.cond (Has.t rfl) (fun hc1 => ?_) (fun hc1 => ?_)
  · have hc1 := BP.t hc1
    refine Tri.skip ?_
    refine At.thn (hK6 _ _ ?_); clear hK6
    refine Tri.seq fun K8 hK8 => ?_
    refine Tri.block ?_
    refine Tri.seq fun K9 hK9 => ?_
    refine Tri.region ?_
    refine st (OK1.call (zint_Of) (.cons (Has.cI 0 rfl) .nil)) rfl ?_
    refine Ops.alloc [isB false, SlM isU []] zero44 (fun _ _ => ⟨rfl, nilM _ _, trivial⟩) rfl fun b1 => ?_
    refine Ops.store (Has.t rfl) (Has.t rfl) (i := 0) rfl ty44 rfl rfl (Ss' := [_, _]) rfl (M' := [(some _, cellM [_, _]), _]) rfl ?_
    refine nl ?_
    refine At.thn (hK9 _ _ ?_); clear hK9
    refine Tri.seq fun K10 hK10 => ?_
    refine Tri.seq fun K11 hK11 => ?_
    refine Tri.region ?_
    refine st (OK1.as (Has.cI 0 rfl)) rfl ?_
    refine nl ?_
    refine At.thn (hK11 _ _ ?_); clear hK11
    refine Tri.block ?_
    refine Tri.loopF [0, 1, 4, 6, 5, 9, 10, 11, 12, 13, 14, 15, 18, 7] (fun (z : { k : Nat // k ≤ i + 1 }) => match z with | ⟨k, hk⟩ => [(8, isI (k : Int))]) (fun M => fun (z : { k : Nat // k ≤ i + 1 }) => match z with | ⟨k, hk⟩ => [zM b1 (rows (cf (vals xs)) (cf (vals ys)) k i), grMK zc g ((F.take i).map nz)]) (fun (z : { k : Nat // k ≤ i + 1 }) => match z with | ⟨k, hk⟩ => i + 1 - k) (⟨0, Nat.zero_le _⟩) (Cv.mem (.cons (t := 8) (Has.t' rfl ?_) (.cons (t := 0) (Has.t rfl) (.cons (t := 1) (Has.t rfl) (.cons (t := 4) (Has.t rfl) (.cons (t := 6) (Has.t rfl) (.cons (t := 5) (Has.t rfl) (.cons (t := 9) (Has.t rfl) (.cons (t := 10) (Has.t rfl) (.cons (t := 11) (Has.t rfl) (.cons (t := 12) (Has.t rfl) (.cons (t := 13) (Has.t rfl) (.cons (t := 14) (Has.t rfl) (.cons (t := 15) (Has.t rfl) (.cons (t := 18) (Has.t rfl) (.cons (t := 7) (Has.t rfl) .nil))))))))))))))) ?_) ?_
    · rfl
    · rfl
    rintro ⟨k, hk⟩ K12 hK12
    refine Tri.cv (Cv.wk (.cons (t := 8) (Has.t rfl) (.cons (t := 0) (Has.t rfl) (.cons (t := 1) (Has.t rfl) (.cons (t := 4) (Has.t rfl) (.cons (t := 6) (Has.t rfl) (.cons (t := 5) (Has.t rfl) (.cons (t := 9) (Has.t rfl) (.cons (t := 10) (Has.t rfl) (.cons (t := 11) (Has.t rfl) (.cons (t := 12) (Has.t rfl) (.cons (t := 13) (Has.t rfl) (.cons (t := 14) (Has.t rfl) (.cons (t := 15) (Has.t rfl) (.cons (t := 18) (Has.t rfl) (.cons (t := 7) (Has.t rfl) .nil)))))))))))))))) ?_
    refine Tri.memEq (M' := [zM b1 (rows (cf (vals xs)) (cf (vals ys)) k i), grMK zc g ((F.take i).map nz)]) rfl ?_
    have hrw := rows_nw hx hy k i
    refine Tri.seq fun K13 hK13 => ?_
    refine Tri.seq fun K14 hK14 => ?_
    refine Tri.region ?_
    refine st (OK1.mv (Has.t rfl)) rfl ?_
    refine st (OK1.mv (Has.t rfl)) rfl ?_
    refine st (OK1.leI (Has.t rfl) (Has.t rfl)) rfl ?_
    refine nl ?_
    refine At.thn (hK14 _ _ ?_); clear hK14
    refine Tri.cond (Has.t rfl) (fun hc2 => ?_) (fun hc2 => ?_)
    · have hc2 := BP.t hc2
      refine Tri.skip ?_
      refine At.thn (hK13 _ _ ?_); clear hK13
      refine Tri.seq fun K15 hK15 => ?_
      refine Tri.block ?_
      refine Tri.dr ?_
      refine DrG.st (i := 0) [] rfl rfl rfl (by kernel_rfl) (OKG.o rfl (OK1.load (Has.t rfl) (i := 0) rfl ty44 rfl (Ss' := [_, _]) rfl)) ?_
      refine DrG.st (i := 1) [] rfl rfl rfl (by kernel_rfl) (OKG.o rfl (OK1.mv (Has.t rfl))) ?_
      refine DrG.st (i := 2) [] rfl rfl rfl (by kernel_rfl) (OKG.o rfl (OK1.mv (Has.t rfl))) ?_
      refine DrG.st (i := 3) [25, 26] rfl rfl rfl (by kernel_rfl) (OKG.o rfl (OK1.call (ref10_at) (.cons (Has.t rfl) (.cons (Has.t rfl) .nil)))) ?_
      refine DrG.st (i := 4) [] rfl rfl rfl (by kernel_rfl) (OKG.o rfl (OK1.mv (Has.t rfl))) ?_
      refine DrG.st (i := 5) [] rfl rfl rfl (by kernel_rfl) (OKG.o rfl (OK1.mv (Has.t rfl))) ?_
      refine DrG.st (i := 6) [] rfl rfl rfl (by kernel_rfl) (OKG.o rfl (OK1.mv (Has.t rfl))) ?_
      refine DrG.st (i := 7) [29, 30] rfl rfl rfl (by kernel_rfl) (OKG.o rfl (OK1.eq (OK1.subI (Has.t rfl) (Has.t rfl) (by first | omega | assumption) (by first | omega | assumption)) ((show isI _ = isI ((i - k : Nat) : Int) from isI_eq (by omega))))) ?_
      refine DrG.st (i := 8) [28, 31] rfl rfl rfl (by kernel_rfl) (OKG.o rfl (OK1.call (ref10_at (i := i - k)) (.cons (Has.t rfl) (.cons (Has.t rfl) .nil)))) ?_
      refine DrG.st (i := 9) [27, 32] rfl rfl rfl (by kernel_rfl) (OKG.o rfl (OK1.eq (OK1.call (zint_Mul (by have := hx.raw k; omega) (by have := hy.raw (i - k); omega)) (.cons (Has.t rfl) (.cons (Has.t rfl) .nil))) ((show isZ _ = isZ (cf (vals xs) k * cf (vals ys) (i - k)) from isZ_eq (by rw [cf_vals, cf_vals]))))) ?_
      refine DrG.fin (n := 10) mixed (by kernel_rfl) (by kernel_rfl) (by kernel_rfl) ?_
      refine Ops.cv (Cv.wk (.cons (t := 0) (Has.t rfl) (.cons (t := 1) (Has.t rfl) (.cons (t := 4) (Has.t rfl) (.cons (t := 6) (Has.t rfl) (.cons (t := 5) (Has.t rfl) (.cons (t := 9) (Has.t rfl) (.cons (t := 10) (Has.t rfl) (.cons (t := 11) (Has.t rfl) (.cons (t := 12) (Has.t rfl) (.cons (t := 13) (Has.t rfl) (.cons (t := 14) (Has.t rfl) (.cons (t := 15) (Has.t rfl) (.cons (t := 18) (Has.t rfl) (.cons (t := 7) (Has.t rfl) (.cons (t := 8) (Has.t rfl) (.cons (t := 19) (Has.t rfl) (.cons (t := 20) (Has.t rfl) (.cons (t := 21) (Has.t rfl) (.cons (t := 24) (Has.t rfl) (.cons (t := 25) (Has.t rfl) (.cons (t := 26) (Has.t rfl) (.cons (t := 27) (Has.t rfl) (.cons (t := 28) (Has.t rfl) (.cons (t := 29) (Has.t rfl) (.cons (t := 30) (Has.t rfl) (.cons (t := 31) (Has.t rfl) (.cons (t := 32) (Has.t rfl) (.cons (t := 33) (Has.t rfl) .nil))))))))))))))))))))))))))))) ?_
      refine st (OK1.eq (OK1.call (zint_Add (by rw [val_words]; omega) (by rw [val_words]; have := nz_mul (cf (vals xs) k) (cf (vals ys) (i - k)); have := hx k; have := hy (i - k); omega)) (.cons (Has.t rfl) (.cons (Has.t rfl) .nil))) ((show isZ _ = isZ (rows (cf (vals xs)) (cf (vals ys)) k i + cf (vals xs) k * cf (vals ys) (i - k)) from isZ_eq (by simp only [zv_nf])))) rfl ?_
      refine Ops.store (Has.t rfl) (Has.t rfl) (i := 0) rfl ty44 rfl rfl (Ss' := [_, _]) rfl (M' := [(some _, cellM [_, _]), _]) rfl ?_
      refine nl ?_
      refine At.bln ?_
      refine At.thn (hK15 _ _ ?_); clear hK15
      refine Tri.region ?_
      refine st (OK1.mv (Has.t rfl)) rfl ?_
      refine st (OK1.addI (Has.t rfl) (Has.cI 1 rfl) (by first | omega | assumption) (by first | omega | assumption)) rfl ?_
      refine st (OK1.as (Has.t rfl)) rfl ?_
      refine nl ?_
      refine At.thn ?_
      refine hK12 (⟨k + 1, by omega⟩) _ _ ?_ (Cv.mem (.cons (t := 8) (Has.t' rfl ?_) (.cons (t := 0) (Has.t rfl) (.cons (t := 1) (Has.t rfl) (.cons (t := 4) (Has.t rfl) (.cons (t := 6) (Has.t rfl) (.cons (t := 5) (Has.t rfl) (.cons (t := 9) (Has.t rfl) (.cons (t := 10) (Has.t rfl) (.cons (t := 11) (Has.t rfl) (.cons (t := 12) (Has.t rfl) (.cons (t := 13) (Has.t rfl) (.cons (t := 14) (Has.t rfl) (.cons (t := 15) (Has.t rfl) (.cons (t := 18) (Has.t rfl) (.cons (t := 7) (Has.t rfl) .nil))))))))))))))) ?_)
      · show i + 1 - (k + 1) < i + 1 - k; omega
      · exact isI_eq (by omega)
      · exact zM_eq (by rw [← rows_step _ _ _ _ (by omega)]) rfl
    · have hc2 := BP.f hc2
      refine Tri.exit ?_
      refine At.the ?_
      refine At.the ?_
      refine At.blh ?_
      refine At.thn (hK10 _ _ ?_); clear hK10
      refine Tri.region ?_
      refine st (OK1.mv (Has.t rfl)) rfl ?_
      refine st (OK1.eq (OK1.load (Has.t rfl) (i := 0) rfl ty44 rfl (Ss' := [_, _]) rfl) ((show isZ _ = Flat (zc (nz (cf F i))) from isZ_eq (by rw [show k = i + 1 by omega, rows_full, hF, cf_rmul])))) rfl ?_
      refine st (OK1.buildS [isB false, SlM isU []] sl22 ty44 zero44 (fun _ _ => ⟨rfl, nilM _ _, trivial⟩) rfl rfl (.cons (Has.t rfl) rfl rfl rfl .nil) rfl (S := SlK 2 zc [nz (cf F i)]) rfl) rfl ?_
      refine Ops.appendGK (fk := zc) (u := (false, [])) zc_len (by decide) (fun _ => inferInstance) sl22 ty44 zero44 (fun _ _ => ⟨rfl, nilM _ _, trivial⟩) by44 (Has.t rfl) (i := 1) rfl (Has.t rfl) (by rw [hyl]; show i + 1 ≤ _; omega) (by simp) rfl fun gr1 => ?_
      refine Ops.memEq (M' := [_, grMK _ _ _]) rfl ?_
      refine st (OK1.as (Has.t rfl)) rfl ?_
      refine nl ?_
      refine At.bln ?_
      refine At.thn (hK8 _ _ ?_); clear hK8
      refine Tri.region ?_
      refine st (OK1.mv (Has.t rfl)) rfl ?_
      refine st (OK1.addI (Has.t rfl) (Has.cI 1 rfl) (by first | omega | assumption) (by first | omega | assumption)) rfl ?_
      refine st (OK1.as (Has.t rfl)) rfl ?_
      refine nl ?_
      refine At.thn ?_
      refine hK5 (⟨(i + 1, gr1), by show i + 1 ≤ _; omega⟩) _ _ ?_ (Cv.trans (Cv.drop ((.cons _ (.cons_cons _ .slnil)))) (Cv.mem (.cons (t := 6) (Has.t' rfl ?_) (.cons (t := 5) (Has.t' rfl ?_) (.cons (t := 0) (Has.t rfl) (.cons (t := 1) (Has.t rfl) (.cons (t := 4) (Has.t rfl) .nil))))) ?_))
      · show F.length - (i + 1) < F.length - i; omega
      · exact isI_eq (by omega)
      · exact isGr_eq (by rw [← take_map_succ _ _ (by omega), List.length_append])
      · exact grMK_eq (take_map_succ _ _ (by omega))
  · have hc1 := BP.f hc1
    refine Tri.exit ?_
    refine At.the ?_
    refine At.the ?_
    refine At.blh ?_
    refine At.thn (hK3 _ _ ?_); clear hK3
    refine Tri.cv (Cv.wk (.cons (t := 4) (Has.t rfl) (.cons (t := 5) (Has.t rfl) .nil))) ?_
    refine Tri.seq fun K16 hK16 => ?_
    refine Tri.cv (Cv.freezeGK (t := 5) (i := 0) (ys := (F.take i).map nz) zc_len rfl rfl rfl) ?_
    refine Tri.memEq (M' := []) rfl ?_
    refine Tri.cv (Cv.wk (.cons (t := 4) (Has.t rfl) (.cons (t := 5) (Has.t rfl) .nil))) ?_
    refine Tri.region ?_
    refine st (OK1.mv (Has.t rfl)) rfl ?_
    refine st (OK1.as (Has.t rfl)) rfl ?_
    refine nl ?_
    refine At.thn (hK16 _ _ ?_); clear hK16
    refine Tri.ret ?_
    refine rt1 (.inl rfl) Try.results119 rfl (.tmp (Has.t' rfl ?_) .nil)
    all_goals (exact isP_eq (by rw [List.take_of_length_le (by omega), hF]))
set_option maxHeartbeats 4000000 in
theorem ref10_Same {xs ys : List (Bool × List Nat)} {K L : Nat} (hx : Bd (vals xs) K) (hy : Bd (vals ys) L) (hK : K ≤ 400000000) (hL : L ≤ 400000000) (hn : xs.length ≤ 400000) (hm : ys.length ≤ 400000) : Ctr Try.prog 79 [SlK 2 zc xs, SlK 2 zc ys] (isB (decide (psub (vals xs) (vals ys) = []))) := by
  refine Ctr.intro Try.func79 rfl (by kernel_rfl) Try.ntmps79 rfl fun w0 F0 => ?_
  refine Tri.cv (Cv.wk (.cons (t := 0) (Has.t rfl) (.cons (t := 1) (Has.t rfl) .nil))) ?_
  refine Tri.fact (Has.lenLt (Has.t (t := 0) rfl)) fun lt0 => ?_
  refine Tri.fact (Has.lenLt (Has.t (t := 1) rfl)) fun lt1 => ?_
  have hvx := vals_len xs
  have hvy := vals_len ys
  
  refine Tri.seq fun K1 hK1 => ?_
  refine Tri.region ?_
  refine st (OK1.as (Has.cB false)) rfl ?_
  refine nl ?_
  refine At.thn (hK1 _ _ ?_); clear hK1
  refine Tri.seq fun K2 hK2 => ?_
  refine Tri.seq fun K3 hK3 => ?_
  refine Tri.region ?_
  refine st (OK1.as (Has.cI 0 rfl)) rfl ?_
  refine nl ?_
  refine At.thn (hK3 _ _ ?_); clear hK3
  refine Tri.block ?_
  refine Tri.loopF [0, 1] (fun (z : { i : Nat // i ≤ max xs.length ys.length ∧ ∀ j, j < i → cf (vals xs) j = cf (vals ys) j }) => match z with | ⟨i, hi⟩ => [(5, isI (i : Int))]) (fun M => fun (z : { i : Nat // i ≤ max xs.length ys.length ∧ ∀ j, j < i → cf (vals xs) j = cf (vals ys) j }) => match z with | ⟨i, hi⟩ => []) (fun (z : { i : Nat // i ≤ max xs.length ys.length ∧ ∀ j, j < i → cf (vals xs) j = cf (vals ys) j }) => match z with | ⟨i, hi⟩ => max xs.length ys.length - i) (⟨0, Nat.zero_le _, fun j h => absurd h (Nat.not_lt_zero _)⟩) (Cv.mem (.cons (t := 5) (Has.t' rfl ?_) (.cons (t := 0) (Has.t rfl) (.cons (t := 1) (Has.t rfl) .nil))) ?_) ?_
  · rfl
  · rfl
  rintro ⟨i, hi, hj⟩ K4 hK4
  refine Tri.cv (Cv.wk (.cons (t := 5) (Has.t rfl) (.cons (t := 0) (Has.t rfl) (.cons (t := 1) (Has.t rfl) .nil)))) ?_
  refine Tri.memEq (M' := []) rfl ?_
  refine Tri.seq fun K5 hK5 => ?_
  refine Tri.seq fun K6 hK6 => ?_
  refine Tri.region ?_
  refine st (OK1.mv (Has.t rfl)) rfl ?_
  refine st (OK1.mv (Has.t rfl)) rfl ?_
  refine st (OK1.len sl22 (Has.t rfl)) rfl ?_
  refine st (OK1.ltI (Has.t rfl) (Has.t rfl)) rfl ?_
  refine st (OK1.mv (Has.t rfl)) rfl ?_
  refine stF rfl rfl (fun hg => have hg' := BP.t hg; OK1.mv (Has.t rfl)) rfl ?_
  refine stF rfl rfl (fun hg => have hg' := BP.t hg; OK1.mv (Has.t rfl)) rfl ?_
  refine stF rfl rfl (fun hg => have hg' := BP.t hg; OK1.len sl22 (Has.g rfl hg)) rfl ?_
  refine stF rfl rfl (fun hg => have hg' := BP.t hg; OK1.ltI (Has.g rfl hg) (Has.g rfl hg)) rfl ?_
  refine st (OK1.pickOr (Has.t rfl) (fun h => Has.g rfl (ng h))) rfl ?_
  refine nl ?_
  refine At.thn (hK6 _ _ ?_); clear hK6
  refine Tri.cond (Has.t rfl) (fun hc1 => ?_) (fun hc1 => ?_)
  · have hc1 := BP.t hc1
    refine Tri.skip ?_
    refine At.thn (hK5 _ _ ?_); clear hK5
    refine Tri.seq fun K7 hK7 => ?_
    refine Tri.block ?_
    refine Tri.seq fun K8 hK8 => ?_
    refine Tri.region ?_
    refine st (OK1.mv (Has.t rfl)) rfl ?_
    refine st (OK1.mv (Has.t rfl)) rfl ?_
    refine st (OK1.call (ref10_at) (.cons (Has.t rfl) (.cons (Has.t rfl) .nil))) rfl ?_
    refine st (OK1.mv (Has.t rfl)) rfl ?_
    refine st (OK1.mv (Has.t rfl)) rfl ?_
    refine st (OK1.call (ref10_at) (.cons (Has.t rfl) (.cons (Has.t rfl) .nil))) rfl ?_
    refine st (OK1.eq (OK1.call (zint_Same (by have := hx.raw i; omega) (by have := hy.raw i; omega)) (.cons (Has.t rfl) (.cons (Has.t rfl) .nil))) ((show isB _ = isB (decide (cf (vals xs) i = cf (vals ys) i)) from isB_eq (by rw [cf_vals, cf_vals])))) rfl ?_
    refine st (OK1.not (Has.t rfl)) rfl ?_
    refine nl ?_
    refine At.thn (hK8 _ _ ?_); clear hK8
    refine Tri.cond (Has.t rfl) (fun hc2 => ?_) (fun hc2 => ?_)
    · have hc2 := BP.t hc2
      have hNe : ¬ cf (vals xs) i = cf (vals ys) i := (by simpa using hc2)
      refine Tri.seq fun K9 hK9 => ?_
      refine Tri.region ?_
      refine st (OK1.as (Has.cB false)) rfl ?_
      refine nl ?_
      refine At.thn (hK9 _ _ ?_); clear hK9
      refine Tri.ret ?_
      refine At.blr ?_
      refine At.thr ?_
      refine At.thr ?_
      refine At.blr ?_
      refine At.thr ?_
      refine rt1 (.inl rfl) Try.results79 rfl (.tmp (Has.t' rfl ?_) .nil)
      all_goals (exact isB_eq (same_not hNe).symm)
    · have hc2 := BP.f hc2
      have hEq : cf (vals xs) i = cf (vals ys) i := (by simpa using hc2)
      refine Tri.skip ?_
      refine At.bln ?_
      refine At.thn (hK7 _ _ ?_); clear hK7
      refine Tri.region ?_
      refine st (OK1.mv (Has.t rfl)) rfl ?_
      refine st (OK1.addI (Has.t rfl) (Has.cI 1 rfl) (by first | omega | assumption) (by first | omega | assumption)) rfl ?_
      refine st (OK1.as (Has.t rfl)) rfl ?_
      refine nl ?_
      refine At.thn ?_
      refine hK4 (⟨i + 1, by omega, fun j h => by rcases Nat.lt_or_ge j i with h2 | h2; exact hj j h2; rw [show j = i by omega]; exact hEq⟩) _ _ ?_ (Cv.mem (.cons (t := 5) (Has.t' rfl ?_) (.cons (t := 0) (Has.t rfl) (.cons (t := 1) (Has.t rfl) .nil))) ?_)
      · show max xs.length ys.length - (i + 1) < max xs.length ys.length - i; omega
      · exact isI_eq (by omega)
      · rfl
  · have hc1 := BP.f hc1
    refine Tri.exit ?_
    refine At.the ?_
    refine At.the ?_
    refine At.blh ?_
    refine At.thn (hK2 _ _ ?_); clear hK2
    refine Tri.cv (Cv.wk .nil) ?_
    refine Tri.seq fun K10 hK10 => ?_
    refine Tri.region ?_
    refine st (OK1.as (Has.cB true)) rfl ?_
    refine nl ?_
    refine At.thn (hK10 _ _ ?_); clear hK10
    refine Tri.ret ?_
    refine rt1 (.inl rfl) Try.results79 rfl (.tmp (Has.t' rfl ?_) .nil)
    all_goals (exact isB_eq (same_yes hj (by omega) (by omega)).symm)
set_option maxHeartbeats 4000000 in
theorem ref10_Few {xs : List (Bool × List Nat)} {n w : Int} : Ctr Try.prog 16 [SlK 2 zc xs, isI n, isI w] (isB (fewB xs n w)) := by
  refine Ctr.intro Try.func16 rfl (by kernel_rfl) Try.ntmps16 rfl fun w0 F0 => ?_
  refine Tri.cv (Cv.wk (.cons (t := 0) (Has.t rfl) (.cons (t := 1) (Has.t rfl) (.cons (t := 2) (Has.t rfl) .nil)))) ?_
  refine Tri.fact (Has.lenLt (Has.t (t := 0) rfl)) fun lt0 => ?_
  refine Tri.fact (Has.rngI (Has.t (t := 1) rfl)) fun lt1 => ?_
  refine Tri.fact (Has.rngI (Has.t (t := 2) rfl)) fun lt2 => ?_
  refine Tri.seq fun K1 hK1 => ?_
  refine Tri.region ?_
  refine st (OK1.as (Has.cB false)) rfl ?_
  refine nl ?_
  refine At.thn (hK1 _ _ ?_); clear hK1
  refine Tri.seq fun K2 hK2 => ?_
  refine Tri.seq fun K3 hK3 => ?_
  refine Tri.region ?_
  refine st (OK1.as (Has.cI 0 rfl)) rfl ?_
  refine nl ?_
  refine At.thn (hK3 _ _ ?_); clear hK3
  refine Tri.block ?_
  refine Tri.loopF [0, 1, 2] (fun (z : { i : Nat // i ≤ xs.length ∧ i ≤ 100 ∧ ∀ j, j < i → ((xs.getD j (false, [])).2.length : Int) ≤ w }) => match z with | ⟨i, hi⟩ => [(7, isI (i : Int))]) (fun M => fun (z : { i : Nat // i ≤ xs.length ∧ i ≤ 100 ∧ ∀ j, j < i → ((xs.getD j (false, [])).2.length : Int) ≤ w }) => match z with | ⟨i, hi⟩ => []) (fun (z : { i : Nat // i ≤ xs.length ∧ i ≤ 100 ∧ ∀ j, j < i → ((xs.getD j (false, [])).2.length : Int) ≤ w }) => match z with | ⟨i, hi⟩ => xs.length - i) (⟨0, Nat.zero_le _, by omega, fun j h => absurd h (Nat.not_lt_zero _)⟩) (Cv.mem (.cons (t := 7) (Has.t' rfl ?_) (.cons (t := 0) (Has.t rfl) (.cons (t := 1) (Has.t rfl) (.cons (t := 2) (Has.t rfl) .nil)))) ?_) ?_
  · rfl
  · rfl
  rintro ⟨i, hi, h1, hj⟩ K4 hK4
  refine Tri.cv (Cv.wk (.cons (t := 7) (Has.t rfl) (.cons (t := 0) (Has.t rfl) (.cons (t := 1) (Has.t rfl) (.cons (t := 2) (Has.t rfl) .nil))))) ?_
  refine Tri.memEq (M' := []) rfl ?_
  refine Tri.seq fun K5 hK5 => ?_
  refine Tri.seq fun K6 hK6 => ?_
  refine Tri.region ?_
  refine st (OK1.mv (Has.t rfl)) rfl ?_
  refine st (OK1.mv (Has.t rfl)) rfl ?_
  refine st (OK1.len sl22 (Has.t rfl)) rfl ?_
  refine st (OK1.ltI (Has.t rfl) (Has.t rfl)) rfl ?_
  refine st (OK1.mv (Has.t rfl)) rfl ?_
  refine stT rfl rfl (fun hg => have hg' := BP.t hg; OK1.mv (Has.t rfl)) rfl ?_
  refine stT rfl rfl (fun hg => have hg' := BP.t hg; OK1.ltI (Has.g rfl hg) (Has.cI 100 rfl)) rfl ?_
  refine st (OK1.pickAnd (Has.t rfl) (fun h => Has.g rfl h)) rfl ?_
  refine nl ?_
  refine At.thn (hK6 _ _ ?_); clear hK6
  refine Tri.cond (Has.t rfl) (fun hc1 => ?_) (fun hc1 => ?_)
  · have hc1 := BP.t hc1
    refine Tri.skip ?_
    refine At.thn (hK5 _ _ ?_); clear hK5
    refine Tri.seq fun K7 hK7 => ?_
    refine Tri.block ?_
    refine Tri.seq fun K8 hK8 => ?_
    refine Tri.region ?_
    refine st (OK1.mv (Has.t rfl)) rfl ?_
    refine st (OK1.mv (Has.t rfl)) rfl ?_
    refine st (OK1.ixK sl22 ty44 (Has.t rfl) (Has.t rfl) zc_len ⟨by omega, by omega⟩ (getD_some (d := (false, [])) (by first | omega | (simp only [Int.toNat_natCast, List.length_set]; omega)))) rfl ?_
    refine st (OK1.fieldAddrP (Has.t rfl) fld44_1 ty42 (Ss' := [_]) rfl) rfl ?_
    refine st (OK1.loadP1 (Has.t rfl) ty42) rfl ?_
    refine st (OK1.len sl42 (Has.t rfl)) rfl ?_
    refine st (OK1.mv (Has.t rfl)) rfl ?_
    refine st (OK1.gtI (Has.t rfl) (Has.t rfl)) rfl ?_
    refine nl ?_
    refine At.thn (hK8 _ _ ?_); clear hK8
    refine Tri.cond (Has.t rfl) (fun hc2 => ?_) (fun hc2 => ?_)
    · have hc2 := BP.t hc2
      have hNo : ¬ ((xs.getD i (false, [])).2.length : Int) ≤ w := (by simp only [Int.toNat_natCast] at hc2; omega)
      refine Tri.seq fun K9 hK9 => ?_
      refine Tri.region ?_
      refine st (OK1.as (Has.cB false)) rfl ?_
      refine nl ?_
      refine At.thn (hK9 _ _ ?_); clear hK9
      refine Tri.ret ?_
      refine At.blr ?_
      refine At.thr ?_
      refine At.thr ?_
      refine At.blr ?_
      refine At.thr ?_
      refine rt1 (.inl rfl) Try.results16 rfl (.tmp (Has.t' rfl ?_) .nil)
      all_goals (exact isB_eq (fewB_no (by omega) (by omega) hNo).symm)
    · have hc2 := BP.f hc2
      have hLe : ((xs.getD i (false, [])).2.length : Int) ≤ w := (by simp only [Int.toNat_natCast] at hc2; omega)
      refine Tri.skip ?_
      refine At.bln ?_
      refine At.thn (hK7 _ _ ?_); clear hK7
      refine Tri.region ?_
      refine st (OK1.mv (Has.t rfl)) rfl ?_
      refine st (OK1.addI (Has.t rfl) (Has.cI 1 rfl) (by first | omega | assumption) (by first | omega | assumption)) rfl ?_
      refine st (OK1.as (Has.t rfl)) rfl ?_
      refine nl ?_
      refine At.thn ?_
      refine hK4 (⟨i + 1, by omega, by omega, fun j h => by rcases Nat.lt_or_ge j i with h2 | h2; exact hj j h2; rw [show j = i by omega]; exact hLe⟩) _ _ ?_ (Cv.mem (.cons (t := 7) (Has.t' rfl ?_) (.cons (t := 0) (Has.t rfl) (.cons (t := 1) (Has.t rfl) (.cons (t := 2) (Has.t rfl) .nil)))) ?_)
      · show xs.length - (i + 1) < xs.length - i; omega
      · exact isI_eq (by omega)
      · rfl
  · have hc1 := BP.f hc1
    refine Tri.exit ?_
    refine At.the ?_
    refine At.the ?_
    refine At.blh ?_
    refine At.thn (hK2 _ _ ?_); clear hK2
    refine Tri.cv (Cv.wk (.cons (t := 0) (Has.t rfl) (.cons (t := 1) (Has.t rfl) .nil))) ?_
    refine Tri.seq fun K10 hK10 => ?_
    refine Tri.region ?_
    refine st (OK1.mv (Has.t rfl)) rfl ?_
    refine st (OK1.len sl22 (Has.t rfl)) rfl ?_
    refine st (OK1.mv (Has.t rfl)) rfl ?_
    refine st (OK1.leI (Has.t rfl) (Has.t rfl)) rfl ?_
    refine st (OK1.as (Has.t rfl)) rfl ?_
    refine nl ?_
    refine At.thn (hK10 _ _ ?_); clear hK10
    refine Tri.cv (Cv.wk (.cons (t := 6) (Has.t rfl) .nil)) ?_
    refine Tri.ret ?_
    refine rt1 (.inl rfl) Try.results16 rfl (.tmp (Has.t' rfl ?_) .nil)
    all_goals (exact isB_eq (fewB_yes (by omega) hj).symm)
set_option maxHeartbeats 4000000 in
theorem ref10_Normal {l : List Int} {K : Nat} (hx : Bd l K) (hK : K ≤ 400000000) : Ctr Try.prog 78 [isP l] (isB (decide (pnorm l = l))) := by
  refine Ctr.intro Try.func78 rfl (by kernel_rfl) Try.ntmps78 rfl fun w0 F0 => ?_
  refine Tri.cv (Cv.wk (.cons (t := 0) (Has.t rfl) .nil)) ?_
  have hll : (l.map nz).length = l.length := List.length_map _
  refine Tri.fact (Has.lenLt (Has.t (t := 0) rfl)) fun lt0 => ?_
  refine Tri.seq fun K1 hK1 => ?_
  refine Tri.region ?_
  refine st (OK1.as (Has.cB false)) rfl ?_
  refine nl ?_
  refine At.thn (hK1 _ _ ?_); clear hK1
  refine Tri.seq fun K2 hK2 => ?_
  refine Tri.seq fun K3 hK3 => ?_
  refine Tri.region ?_
  refine st (OK1.as (Has.cI 0 rfl)) rfl ?_
  refine nl ?_
  refine At.thn (hK3 _ _ ?_); clear hK3
  refine Tri.block ?_
  refine Tri.loopF [0] (fun (z : { i : Nat // i ≤ l.length }) => match z with | ⟨i, hi⟩ => [(3, isI (i : Int))]) (fun M => fun (z : { i : Nat // i ≤ l.length }) => match z with | ⟨i, hi⟩ => []) (fun (z : { i : Nat // i ≤ l.length }) => match z with | ⟨i, hi⟩ => l.length - i) (⟨0, Nat.zero_le _⟩) (Cv.mem (.cons (t := 3) (Has.t' rfl ?_) (.cons (t := 0) (Has.t rfl) .nil)) ?_) ?_
  · rfl
  · rfl
  rintro ⟨i, hi⟩ K4 hK4
  refine Tri.cv (Cv.wk (.cons (t := 3) (Has.t rfl) (.cons (t := 0) (Has.t rfl) .nil))) ?_
  refine Tri.memEq (M' := []) rfl ?_
  have hbi := hx i
  refine Tri.seq fun K5 hK5 => ?_
  refine Tri.seq fun K6 hK6 => ?_
  refine Tri.region ?_
  refine st (OK1.mv (Has.t rfl)) rfl ?_
  refine st (OK1.mv (Has.t rfl)) rfl ?_
  refine st (OK1.len sl22 (Has.t rfl)) rfl ?_
  refine st (OK1.ltI (Has.t rfl) (Has.t rfl)) rfl ?_
  refine nl ?_
  refine At.thn (hK6 _ _ ?_); clear hK6
  refine Tri.cond (Has.t rfl) (fun hc1 => ?_) (fun hc1 => ?_)
  · have hc1 := BP.t hc1
    refine Tri.skip ?_
    refine At.thn (hK5 _ _ ?_); clear hK5
    refine Tri.seq fun K7 hK7 => ?_
    refine Tri.block ?_
    refine Tri.seq fun K8 hK8 => ?_
    refine Tri.region ?_
    refine st (OK1.mv (Has.t rfl)) rfl ?_
    refine st (OK1.mv (Has.t rfl)) rfl ?_
    refine st (OK1.ixK sl22 ty44 (Has.t rfl) (Has.t rfl) zc_len ⟨by omega, by omega⟩ (getZ (i := i) (by omega))) rfl ?_
    refine st (OK1.fieldAddrP (Has.t rfl) fld44_1 ty42 (Ss' := [_]) rfl) rfl ?_
    refine st (OK1.eq (OK1.loadP1 (Has.t rfl) ty42) ((show isWords _ = isWords (words (cf l i).natAbs) from rfl))) rfl ?_
    refine st (OK1.len sl42 (Has.t rfl)) rfl ?_
    refine st (OK1.as (Has.t rfl)) rfl ?_
    refine nl ?_
    refine At.thn (hK8 _ _ ?_); clear hK8
    refine Tri.seq fun K9 hK9 => ?_
    refine Tri.region ?_
    refine st (OK1.mv (Has.t rfl)) rfl ?_
    refine st (OK1.gtI (Has.t rfl) (Has.cI 0 rfl)) rfl ?_
    refine st (OK1.mv (Has.t rfl)) rfl ?_
    refine stT rfl rfl (fun hg => have hg' := BP.t hg; OK1.mv (Has.t rfl)) rfl ?_
    refine stT rfl rfl (fun hg => have hg' := BP.t hg; OK1.mv (Has.t rfl)) rfl ?_
    refine stT rfl rfl (fun hg => have hg' := BP.t hg; OK1.ixK sl22 ty44 (Has.g rfl hg) (Has.g rfl hg) zc_len ⟨by omega, by omega⟩ (getZ (i := i) (by omega))) rfl ?_
    refine stT rfl rfl (fun hg => have hg' := BP.t hg; OK1.fieldAddrP (Has.g rfl hg) fld44_1 ty42 (Ss' := [_]) rfl) rfl ?_
    refine stT rfl rfl (fun hg => have hg' := BP.t hg; OK1.eq (OK1.loadP1 (Has.g rfl hg) ty42) ((show isWords _ = isWords (words (cf l i).natAbs) from rfl))) rfl ?_
    refine stT rfl rfl (fun hg => have hg' := BP.t hg; OK1.mv (Has.t rfl)) rfl ?_
    refine stT rfl rfl (fun hg => have hg' := BP.t hg; OK1.subI (Has.g rfl hg) (Has.cI 1 rfl) (by first | omega | assumption) (by first | omega | assumption)) rfl ?_
    refine stT rfl rfl (fun hg => have hg' := BP.t hg; OK1.ixP sl42 ty59 (Has.g rfl hg) (Has.g rfl hg) ⟨by omega, by omega⟩ (getD_some (d := 0) (by first | omega | (simp only [Int.toNat_natCast, List.length_set]; omega)))) rfl ?_
    refine stT rfl rfl (fun hg => have hg' := BP.t hg; OK1.eq (OK1.loadP1 (Has.g rfl hg) ty59) ((show isU _ = isU (dig (cf l i).natAbs ((List.length (words (cf l i).natAbs)) - 1)) from isU_eq (by rw [show (((List.length (words (cf l i).natAbs)) : Int) - 1).toNat = (List.length (words (cf l i).natAbs)) - 1 by omega, getD_words])))) rfl ?_
    refine stT rfl rfl (fun hg => have hg' := BP.t hg; OK1.eqU (Has.g rfl hg) (Has.cU 0 rfl)) rfl ?_
    refine st (OK1.pickAnd (Has.t rfl) (fun h => Has.g rfl h)) rfl ?_
    refine st (OK1.mv (Has.t rfl)) rfl ?_
    refine stF rfl rfl (fun hg => have hg' := BP.t hg; OK1.mv (Has.t rfl)) rfl ?_
    refine stF rfl rfl (fun hg => have hg' := BP.t hg; OK1.eqI (Has.g rfl hg) (Has.cI 0 rfl)) rfl ?_
    refine stF rfl rfl (fun hg => have hg' := BP.t hg; OK1.mv (Has.g rfl hg)) rfl ?_
    refine stGT rfl rfl (fun hg => have hg' := BP.t hg; OK1.mv (Has.t rfl)) rfl ?_
    refine stGT rfl rfl (fun hg => have hg' := BP.t hg; OK1.mv (Has.t rfl)) rfl ?_
    refine stGT rfl rfl (fun hg => have hg' := BP.t hg; OK1.ixK sl22 ty44 (Has.g rfl hg) (Has.g rfl hg) zc_len ⟨by omega, by omega⟩ (getZ (i := i) (by omega))) rfl ?_
    refine stGT rfl rfl (fun hg => have hg' := BP.t hg; OK1.fieldAddrP (Has.g rfl hg) fld44_0 ty4 (Ss' := [_, _]) rfl) rfl ?_
    refine stGT rfl rfl (fun hg => have hg' := BP.t hg; OK1.eq (OK1.loadP1 (Has.g rfl hg) ty4) ((show isB _ = isB (decide (cf l i < 0)) from rfl))) rfl ?_
    refine stF rfl rfl (fun hg => have hg' := BP.t hg; OK1.pickAnd (Has.g rfl hg) (fun h => Has.g rfl (ga hg h))) rfl ?_
    refine st (OK1.pickOr (Has.t rfl) (fun h => Has.g rfl (ng h))) rfl ?_
    refine nl ?_
    refine At.thn (hK9 _ _ ?_); clear hK9
    refine Tri.cond (Has.t rfl) (fun hc2 => ?_) (fun hc2 => ?_)
    · have hc2 := BP.t hc2
      exact (normal_dead hc2).elim
    · have hc2 := BP.f hc2
      refine Tri.skip ?_
      refine At.bln ?_
      refine At.thn (hK7 _ _ ?_); clear hK7
      refine Tri.region ?_
      refine st (OK1.mv (Has.t rfl)) rfl ?_
      refine st (OK1.addI (Has.t rfl) (Has.cI 1 rfl) (by first | omega | assumption) (by first | omega | assumption)) rfl ?_
      refine st (OK1.as (Has.t rfl)) rfl ?_
      refine nl ?_
      refine At.thn ?_
      refine hK4 (⟨i + 1, by omega⟩) _ _ ?_ (Cv.mem (.cons (t := 3) (Has.t' rfl ?_) (.cons (t := 0) (Has.t rfl) .nil)) ?_)
      · show l.length - (i + 1) < l.length - i; omega
      · exact isI_eq (by omega)
      · rfl
  · have hc1 := BP.f hc1
    refine Tri.exit ?_
    refine At.the ?_
    refine At.the ?_
    refine At.blh ?_
    refine At.thn (hK2 _ _ ?_); clear hK2
    refine Tri.cv (Cv.wk (.cons (t := 0) (Has.t rfl) .nil)) ?_
    refine Tri.seq fun K10 hK10 => ?_
    refine Tri.region ?_
    refine st (OK1.mv (Has.t rfl)) rfl ?_
    refine st (OK1.len sl22 (Has.t rfl)) rfl ?_
    refine st (OK1.eqI (Has.t rfl) (Has.cI 0 rfl)) rfl ?_
    refine st (OK1.mv (Has.t rfl)) rfl ?_
    refine stF rfl rfl (fun hg => have hg' := BP.t hg; OK1.mv (Has.t rfl)) rfl ?_
    refine stF rfl rfl (fun hg => have hg' := BP.t hg; OK1.mv (Has.t rfl)) rfl ?_
    refine stF rfl rfl (fun hg => have hg' := BP.t hg; OK1.len sl22 (Has.g rfl hg)) rfl ?_
    refine stF rfl rfl (fun hg => have hg' := BP.t hg; OK1.subI (Has.g rfl hg) (Has.cI 1 rfl) (by first | omega | assumption) (by first | omega | assumption)) rfl ?_
    refine stF rfl rfl (fun hg => have hg' := BP.t hg; OK1.ixK sl22 ty44 (Has.g rfl hg) (Has.g rfl hg) zc_len ⟨by omega, by omega⟩ (getD_some (d := (false, [])) (by first | omega | (simp only [Int.toNat_natCast, List.length_set]; omega)))) rfl ?_
    refine stF rfl rfl (fun hg => have hg' := BP.t hg; OK1.loadP (Has.g rfl hg) ty44 rfl (Ss' := [_, _]) rfl) rfl ?_
    refine stF rfl rfl (fun hg => have hg' := BP.t hg; OK1.eq (OK1.call (zint_Sign (by rw [getD_nz, val_words]; have := hx ((l.map nz).length - 1 : Int).toNat; omega)) (.cons (Has.g rfl hg) .nil)) ((show isI _ = isI (sgn (cf l (l.length - 1))) from isI_eq (by rw [getD_nz, zv_nz]; congr 2; omega)))) rfl ?_
    refine stF rfl rfl (fun hg => have hg' := BP.t hg; OK1.neI (Has.g rfl hg) (Has.cI 0 rfl)) rfl ?_
    refine st (OK1.pickOr (Has.t rfl) (fun h => Has.g rfl (ng h))) rfl ?_
    refine st (OK1.as (Has.t rfl)) rfl ?_
    refine nl ?_
    refine At.thn (hK10 _ _ ?_); clear hK10
    refine Tri.cv (Cv.wk (.cons (t := 2) (Has.t rfl) .nil)) ?_
    refine Tri.ret ?_
    refine rt1 (.inl rfl) Try.results78 rfl (.tmp (Has.t' rfl ?_) .nil)
    all_goals (exact isB_eq (normal_end _))
set_option maxHeartbeats 4000000 in
theorem ref10_Is {l : List Int} {ys : List (Bool × List Nat)} {K L : Nat} (hx : Bd l K) (hy : Bd (vals ys) L) (hK : K ≤ 400000000) (hL : L ≤ 400000000) (hn : l.length ≤ 400000) (hm : ys.length ≤ 400000) : Ctr Try.prog 28 [isP l, SlK 2 zc ys] (isB (isB2 l (vals ys))) := by
  refine Ctr.intro Try.func28 rfl (by kernel_rfl) Try.ntmps28 rfl fun w0 F0 => ?_
  refine Tri.cv (Cv.wk (.cons (t := 0) (Has.t rfl) (.cons (t := 1) (Has.t rfl) .nil))) ?_
  refine Tri.seq fun K1 hK1 => ?_
  refine Tri.region ?_
  refine st (OK1.as (Has.cB false)) rfl ?_
  refine nl ?_
  refine At.thn (hK1 _ _ ?_); clear hK1
  refine Tri.seq fun K2 hK2 => ?_
  refine Tri.region ?_
  refine st (OK1.mv (Has.t rfl)) rfl ?_
  refine st (OK1.call (ref10_Normal hx hK) (.cons (Has.t rfl) .nil)) rfl ?_
  refine st (OK1.mv (Has.t rfl)) rfl ?_
  refine stT rfl rfl (fun hg => have hg' := BP.t hg; OK1.mv (Has.t rfl)) rfl ?_
  refine stT rfl rfl (fun hg => have hg' := BP.t hg; OK1.mv (Has.t rfl)) rfl ?_
  refine stT rfl rfl (fun hg => have hg' := BP.t hg; OK1.eq (OK1.call (ref10_Same (by rw [vals_nz]; exact hx) hy hK hL (by rw [List.length_map]; exact hn) hm) (.cons (Has.g rfl hg) (.cons (Has.g rfl hg) .nil))) ((by rw [vals_nz]))) rfl ?_
  refine st (OK1.pickAnd (Has.t rfl) (fun h => Has.g rfl h)) rfl ?_
  refine st (OK1.as (Has.t rfl)) rfl ?_
  refine nl ?_
  refine At.thn (hK2 _ _ ?_); clear hK2
  refine Tri.cv (Cv.wk (.cons (t := 4) (Has.t rfl) .nil)) ?_
  refine Tri.ret ?_
  refine rt1 (.inl rfl) Try.results28 rfl (.tmp (Has.t' rfl ?_) .nil)
  all_goals (rfl)
end Go.Proofs.Ytgkbekcpmbjbdaa
/- Contracts: the document's matrices. -/
namespace Go.Proofs.Ytgkbekcpmbjbdaa
open Go.En Go.RowKit
set_option linter.unusedVariables false
set_option maxRecDepth 10000
open Go.Nt
open Go.Pz
open Go.Mz
open Go.Dt
set_option maxHeartbeats 4000000 in
theorem ref11_Formed {r c : Int} {xs : List (Bool × List Nat)} : Ctr Try.prog 58 [isM r c xs] (isB (formB r c xs.length)) := by
  refine Ctr.intro Try.func58 rfl (by kernel_rfl) Try.ntmps58 rfl fun w0 F0 => ?_
  refine Tri.cv (Cv.wk (.cons (t := 0) (Has.t rfl) .nil)) ?_
  refine Tri.seq fun K1 hK1 => ?_
  refine Tri.region ?_
  refine Ops.box (Has.t rfl) rfl fun b1 => ?_
  refine st (OK1.as (Has.cB false)) rfl ?_
  refine nl ?_
  refine At.thn (hK1 _ _ ?_); clear hK1
  refine Tri.seq fun K2 hK2 => ?_
  refine Tri.region ?_
  refine st (OK1.fieldAddr (Has.t rfl) fld24_0 ty3) rfl ?_
  refine st (OK1.load1 (Has.t rfl) (i := 0) rfl ty3 rfl) rfl ?_
  refine st (OK1.geI (Has.t rfl) (Has.cI 0 rfl)) rfl ?_
  refine st (OK1.mv (Has.t rfl)) rfl ?_
  refine stT rfl rfl (fun hg => have hg' := BP.t hg; OK1.fieldAddr (Has.t rfl) fld24_0 ty3) rfl ?_
  refine stT rfl rfl (fun hg => have hg' := BP.t hg; OK1.load1 (Has.g rfl hg) (i := 0) rfl ty3 rfl) rfl ?_
  refine stT rfl rfl (fun hg => have hg' := BP.t hg; OK1.leI (Has.g rfl hg) (Has.cI 64 rfl)) rfl ?_
  refine st (OK1.pickAnd (Has.t rfl) (fun h => Has.g rfl h)) rfl ?_
  refine st (OK1.mv (Has.t rfl)) rfl ?_
  refine stT rfl rfl (fun hg => have hg' := BP.t hg; OK1.fieldAddr (Has.t rfl) fld24_1 ty3) rfl ?_
  refine stT rfl rfl (fun hg => have hg' := BP.t hg; OK1.load1 (Has.g rfl hg) (i := 0) rfl ty3 rfl) rfl ?_
  refine stT rfl rfl (fun hg => have hg' := BP.t hg; OK1.geI (Has.g rfl hg) (Has.cI 0 rfl)) rfl ?_
  refine st (OK1.pickAnd (Has.t rfl) (fun h => Has.g rfl h)) rfl ?_
  refine st (OK1.mv (Has.t rfl)) rfl ?_
  refine stT rfl rfl (fun hg => have hg' := BP.t hg; OK1.fieldAddr (Has.t rfl) fld24_1 ty3) rfl ?_
  refine stT rfl rfl (fun hg => have hg' := BP.t hg; OK1.load1 (Has.g rfl hg) (i := 0) rfl ty3 rfl) rfl ?_
  refine stT rfl rfl (fun hg => have hg' := BP.t hg; OK1.leI (Has.g rfl hg) (Has.cI 64 rfl)) rfl ?_
  refine st (OK1.pickAnd (Has.t rfl) (fun h => Has.g rfl h)) rfl ?_
  refine st (OK1.mv (Has.t rfl)) rfl ?_
  refine stT rfl rfl (fun hg => have hg' := BP.t hg; OK1.fieldAddr (Has.t rfl) fld24_2 ty22) rfl ?_
  refine stT rfl rfl (fun hg => have hg' := BP.t hg; OK1.load1 (Has.g rfl hg) (i := 0) rfl ty22 rfl) rfl ?_
  refine stT rfl rfl (fun hg => have hg' := BP.t hg; OK1.len sl22 (Has.g rfl hg)) rfl ?_
  refine stT rfl rfl (fun hg => have hg' := BP.t hg; OK1.fieldAddr (Has.t rfl) fld24_0 ty3) rfl ?_
  refine stT rfl rfl (fun hg => have hg' := BP.t hg; OK1.load1 (Has.g rfl hg) (i := 0) rfl ty3 rfl) rfl ?_
  refine stT rfl rfl (fun hg => have hg' := BP.t hg; OK1.fieldAddr (Has.t rfl) fld24_1 ty3) rfl ?_
  refine stT rfl rfl (fun hg => have hg' := BP.t hg; OK1.load1 (Has.g rfl hg) (i := 0) rfl ty3 rfl) rfl ?_
  refine stT rfl rfl (fun hg => have hg' := BP.t hg; OK1.mulI (Has.g rfl hg) (Has.g rfl hg) (by have := mul_bnd ⟨⟨hg'.1.1.1, hg'.1.1.2⟩, hg'.1.2, hg'.2⟩; omega) (by have := mul_bnd ⟨⟨hg'.1.1.1, hg'.1.1.2⟩, hg'.1.2, hg'.2⟩; omega)) rfl ?_
  refine stT rfl rfl (fun hg => have hg' := BP.t hg; OK1.eqI (Has.g rfl hg) (Has.g rfl hg)) rfl ?_
  refine st (OK1.pickAnd (Has.t rfl) (fun h => Has.g rfl h)) rfl ?_
  refine st (OK1.as (Has.t rfl)) rfl ?_
  refine nl ?_
  refine At.thn (hK2 _ _ ?_); clear hK2
  refine Tri.cv (Cv.wk (.cons (t := 2) (Has.t rfl) .nil)) ?_
  refine Tri.ret ?_
  refine rt1 (.inl rfl) Try.results58 rfl (.tmp (Has.t' rfl ?_) .nil)
  all_goals (exact isB_eq (by unfold formB; simp only [Bool.and_assoc]))
set_option maxHeartbeats 4000000 in
theorem ref11_At {r : Int} {C i k : Nat} {xs : List (Bool × List Nat)} (hx : xs.length ≤ 4096) (hl : i * C + k < xs.length) : Ctr Try.prog 26 [isM r (C : Int) xs, isI (i : Int), isI (k : Int)] (Flat (zc (xs.getD (i * C + k) (false, [])))) := by
  refine Ctr.intro Try.func26 rfl (by kernel_rfl) Try.ntmps26 rfl fun w0 F0 => ?_
  refine Tri.cv (Cv.wk (.cons (t := 0) (Has.t rfl) (.cons (t := 1) (Has.t rfl) (.cons (t := 2) (Has.t rfl) .nil)))) ?_
  refine Tri.fact (Has.rngI (Has.t (t := 1) rfl)) fun lt1 => ?_
  refine Tri.fact (Has.rngI (Has.t (t := 2) rfl)) fun lt2 => ?_
  have hcp : ((i : Int) * (C : Int)) = ((i * C : Nat) : Int) := (Int.natCast_mul i C).symm
  refine Tri.seq fun K1 hK1 => ?_
  refine Tri.region ?_
  refine Ops.box (Has.t rfl) rfl fun b1 => ?_
  refine Ops.alloc [isB false, SlM isU []] zero44 (fun _ _ => ⟨rfl, nilM _ _, trivial⟩) rfl fun b2 => ?_
  refine nl ?_
  refine At.thn (hK1 _ _ ?_); clear hK1
  refine Tri.seq fun K2 hK2 => ?_
  refine Tri.region ?_
  refine st (OK1.fieldAddr (Has.t rfl) fld24_2 ty22) rfl ?_
  refine st (OK1.load1 (Has.t rfl) (i := 1) rfl ty22 rfl) rfl ?_
  refine st (OK1.mv (Has.t rfl)) rfl ?_
  refine st (OK1.fieldAddr (Has.t rfl) fld24_1 ty3) rfl ?_
  refine st (OK1.load1 (Has.t rfl) (i := 1) rfl ty3 rfl) rfl ?_
  refine st (OK1.eq (OK1.mulI (Has.t rfl) (Has.t rfl) (by first | omega | (rw [hcp]; omega)) (by first | omega | (rw [hcp]; omega))) ((show isI _ = isI ((i * C : Nat) : Int) from isI_eq hcp))) rfl ?_
  refine st (OK1.mv (Has.t rfl)) rfl ?_
  refine st (OK1.eq (OK1.addI (Has.t rfl) (Has.t rfl) (by first | omega | (rw [hcp]; omega)) (by first | omega | (rw [hcp]; omega))) ((show isI _ = isI ((i * C + k : Nat) : Int) from isI_eq (by omega)))) rfl ?_
  refine st (OK1.ixK sl22 ty44 (Has.t rfl) (Has.t rfl) zc_len ⟨by omega, by omega⟩ (getD_some (d := (false, [])) (by first | omega | (simp only [Int.toNat_natCast, List.length_set]; omega)))) rfl ?_
  refine st (OK1.loadP (Has.t rfl) ty44 rfl (Ss' := [_, _]) rfl) rfl ?_
  refine Ops.store (Has.t rfl) (Has.t rfl) (i := 0) rfl ty44 rfl rfl (Ss' := [_, _]) rfl (M' := [(some _, cellM [_, _]), _]) rfl ?_
  refine nl ?_
  refine At.thn (hK2 _ _ ?_); clear hK2
  refine Tri.cv (Cv.wk (.cons (t := 6) (Has.t rfl) .nil)) ?_
  refine Tri.ret ?_
  refine rt1 (.inl rfl) Try.results26 rfl (.cell rfl (i := 0) rfl ty44 rfl ?_ .nil)
  all_goals (rfl)
set_option maxHeartbeats 4000000 in
theorem ref11_Few {r c n w : Int} {xs : List (Bool × List Nat)} : Ctr Try.prog 10 [isM r c xs, isI n, isI w] (isB (decide (r ≤ n) && decide (c ≤ n) && fewB xs 100 w)) := by
  refine Ctr.intro Try.func10 rfl (by kernel_rfl) Try.ntmps10 rfl fun w0 F0 => ?_
  refine Tri.cv (Cv.wk (.cons (t := 0) (Has.t rfl) (.cons (t := 1) (Has.t rfl) (.cons (t := 2) (Has.t rfl) .nil)))) ?_
  refine Tri.fact (Has.rngI (Has.t (t := 1) rfl)) fun lt1 => ?_
  refine Tri.fact (Has.rngI (Has.t (t := 2) rfl)) fun lt2 => ?_
  refine Tri.seq fun K1 hK1 => ?_
  refine Tri.region ?_
  refine Ops.box (Has.t rfl) rfl fun b1 => ?_
  refine st (OK1.as (Has.cB false)) rfl ?_
  refine nl ?_
  refine At.thn (hK1 _ _ ?_); clear hK1
  refine Tri.seq fun K2 hK2 => ?_
  refine Tri.region ?_
  refine st (OK1.fieldAddr (Has.t rfl) fld24_0 ty3) rfl ?_
  refine st (OK1.load1 (Has.t rfl) (i := 0) rfl ty3 rfl) rfl ?_
  refine st (OK1.mv (Has.t rfl)) rfl ?_
  refine st (OK1.leI (Has.t rfl) (Has.t rfl)) rfl ?_
  refine st (OK1.mv (Has.t rfl)) rfl ?_
  refine stT rfl rfl (fun hg => have hg' := BP.t hg; OK1.fieldAddr (Has.t rfl) fld24_1 ty3) rfl ?_
  refine stT rfl rfl (fun hg => have hg' := BP.t hg; OK1.load1 (Has.g rfl hg) (i := 0) rfl ty3 rfl) rfl ?_
  refine stT rfl rfl (fun hg => have hg' := BP.t hg; OK1.mv (Has.t rfl)) rfl ?_
  refine stT rfl rfl (fun hg => have hg' := BP.t hg; OK1.leI (Has.g rfl hg) (Has.g rfl hg)) rfl ?_
  refine st (OK1.pickAnd (Has.t rfl) (fun h => Has.g rfl h)) rfl ?_
  refine st (OK1.mv (Has.t rfl)) rfl ?_
  refine stT rfl rfl (fun hg => have hg' := BP.t hg; OK1.fieldAddr (Has.t rfl) fld24_2 ty22) rfl ?_
  refine stT rfl rfl (fun hg => have hg' := BP.t hg; OK1.load1 (Has.g rfl hg) (i := 0) rfl ty22 rfl) rfl ?_
  refine stT rfl rfl (fun hg => have hg' := BP.t hg; OK1.mv (Has.t rfl)) rfl ?_
  refine stT rfl rfl (fun hg => have hg' := BP.t hg; OK1.call (ref10_Few) (.cons (Has.g rfl hg) (.cons (Has.cI 100 rfl) (.cons (Has.g rfl hg) .nil)))) rfl ?_
  refine st (OK1.pickAnd (Has.t rfl) (fun h => Has.g rfl h)) rfl ?_
  refine st (OK1.as (Has.t rfl)) rfl ?_
  refine nl ?_
  refine At.thn (hK2 _ _ ?_); clear hK2
  refine Tri.cv (Cv.wk (.cons (t := 6) (Has.t rfl) .nil)) ?_
  refine Tri.ret ?_
  refine rt1 (.inl rfl) Try.results10 rfl (.tmp (Has.t' rfl ?_) .nil)
  all_goals (rfl)
end Go.Proofs.Ytgkbekcpmbjbdaa
/- Contracts: layer 26's laws: what a program that does nothing does not answer. -/
namespace Go.Proofs.Ytgkbekcpmbjbdaa
open Go.En Go.RowKit
set_option linter.unusedVariables false
set_option maxRecDepth 10000
open Go.Nt
open Go.Pz
open Go.Mz
open Go.Hn
open Go.Hp
open Go.Dt
open Go.Ch
theorem aw26_b : Bd [1, 2, 3, 4] 1 := bd64 (by decide)
theorem aw26_tab : tab (2 * 2) 2 (fun i k => cf [1, 2, 3, 4] (i * 2 + k)) = [1, 2, 3, 4] := by decide
theorem aw26_q : Bd [-2, -5, 1] 1 := bd64 (by decide)
theorem aw26_n : pnorm [-2, -5, 1] = [-2, -5, 1] := by decide
theorem aw26_s : psub [-2, -5, 1] [-2, -5, 1] = [] := by decide
theorem det_2 (A : MatF) : det 2 A = A 0 0 * A 1 1 - A 0 1 * A 1 0 := by
  show 0 + 1 * (A 0 0 * (0 + 1 * (A 1 1 * 1))) + (-1) * (A 0 1 * (0 + 1 * (A 1 0 * 1))) = _
  grind
theorem aw26 : chL 2 [1, 2, 3, 4] = [-2, -5, 1] := by
  have h : ∀ i, i < 3 → cp 2 (mf 2 [1, 2, 3, 4]) i = cf [-2, -5, 1] i := pe_inj fun x => by
    rw [← cp_ev, det_2]
    show (1 * x + -1) * (1 * x + -4) - (0 * x + -2) * (0 * x + -3) = 0 + -2 * x ^ 0 + -5 * x ^ 1 + 1 * x ^ 2
    grind
  unfold chL
  show [cp 2 (mf 2 [1, 2, 3, 4]) 0, cp 2 (mf 2 [1, 2, 3, 4]) 1, cp 2 (mf 2 [1, 2, 3, 4]) 2] = _
  rw [h 0 (by decide), h 1 (by decide), h 2 (by decide)]; rfl
set_option maxHeartbeats 4000000 in
theorem law26_square {r c : Int} {xs : List (Bool × List Nat)} : Ctr Try.prog 12 [isM r c xs] (isB (formB r c xs.length && decide (r = c))) := by
  refine Ctr.intro Try.func12 rfl (by kernel_rfl) Try.ntmps12 rfl fun w0 F0 => ?_
  refine Tri.cv (Cv.wk (.cons (t := 0) (Has.t rfl) .nil)) ?_
  refine Tri.seq fun K1 hK1 => ?_
  refine Tri.region ?_
  refine Ops.box (Has.t rfl) rfl fun b1 => ?_
  refine st (OK1.as (Has.cB false)) rfl ?_
  refine nl ?_
  refine At.thn (hK1 _ _ ?_); clear hK1
  refine Tri.seq fun K2 hK2 => ?_
  refine Tri.region ?_
  refine st (OK1.load (Has.t rfl) (i := 0) rfl ty24 rfl (Ss' := [_, _, _]) rfl) rfl ?_
  refine st (OK1.call (ref11_Formed) (.cons (Has.t rfl) .nil)) rfl ?_
  refine st (OK1.mv (Has.t rfl)) rfl ?_
  refine stT rfl rfl (fun hg => have hg' := BP.t hg; OK1.fieldAddr (Has.t rfl) fld24_0 ty3) rfl ?_
  refine stT rfl rfl (fun hg => have hg' := BP.t hg; OK1.load1 (Has.g rfl hg) (i := 0) rfl ty3 rfl) rfl ?_
  refine stT rfl rfl (fun hg => have hg' := BP.t hg; OK1.fieldAddr (Has.t rfl) fld24_1 ty3) rfl ?_
  refine stT rfl rfl (fun hg => have hg' := BP.t hg; OK1.load1 (Has.g rfl hg) (i := 0) rfl ty3 rfl) rfl ?_
  refine stT rfl rfl (fun hg => have hg' := BP.t hg; OK1.eqI (Has.g rfl hg) (Has.g rfl hg)) rfl ?_
  refine st (OK1.pickAnd (Has.t rfl) (fun h => Has.g rfl h)) rfl ?_
  refine st (OK1.as (Has.t rfl)) rfl ?_
  refine nl ?_
  refine At.thn (hK2 _ _ ?_); clear hK2
  refine Tri.cv (Cv.wk (.cons (t := 2) (Has.t rfl) .nil)) ?_
  refine Tri.ret ?_
  refine rt1 (.inl rfl) Try.results12 rfl (.tmp (Has.t' rfl ?_) .nil)
  all_goals (rfl)
set_option maxHeartbeats 4000000 in
theorem law26_awake  : Ctr Try.prog 9 [] (isB true) := by
  refine Ctr.intro Try.func9 rfl (by kernel_rfl) Try.ntmps9 rfl fun w0 F0 => ?_
  refine Tri.cv (Cv.wk .nil) ?_
  refine Tri.seq fun K1 hK1 => ?_
  refine Tri.region ?_
  refine st (OK1.as (Has.cB false)) rfl ?_
  refine nl ?_
  refine At.thn (hK1 _ _ ?_); clear hK1
  refine Tri.seq fun K2 hK2 => ?_
  refine Tri.region ?_
  refine st (OK1.buildS [isI 0, isI 0, isI 0, isI 0] sl117 ty2 zero2 (fun _ _ => ⟨⟨rfl, by decide, by decide⟩, ⟨rfl, by decide, by decide⟩, ⟨rfl, by decide, by decide⟩, ⟨rfl, by decide, by decide⟩, trivial⟩) rfl rfl (.cons (Has.cI 1 rfl) rfl rfl rfl (.cons (Has.cI 2 rfl) rfl rfl rfl (.cons (Has.cI 3 rfl) rfl rfl rfl (.cons (Has.cI 4 rfl) rfl rfl rfl .nil)))) rfl (S := SlM isI [_, _, _, _]) rfl) rfl ?_
  refine st (OK1.eq (OK1.call (zmat_Of (R := 2) (C := 2) (l := [1, 2, 3, 4]) (by decide) (by decide) rfl (by decide)) (.cons (Has.cI 2 rfl) (.cons (Has.cI 2 rfl) (.cons (Has.t rfl) .nil)))) ((show isTup [isMz 2 2 _, isI 0] = isTup [isMz 2 2 [1, 2, 3, 4], isI 0] from by rw [aw26_tab]))) rfl ?_
  refine st (OK1.mv (Has.t rfl)) rfl ?_
  refine st (OK1.ext (Has.t rfl) rfl) rfl ?_
  refine st (OK1.ext (Has.t rfl) rfl) rfl ?_
  refine Ops.alloc [isI 0, isI 0, nilS] zero24 (fun _ _ => ⟨⟨rfl, by decide, by decide⟩, ⟨rfl, by decide, by decide⟩, rfl, trivial⟩) rfl fun b1 => ?_
  refine Ops.store (Has.t rfl) (Has.t rfl) (i := 0) rfl ty24 rfl rfl (Ss' := [_, _, _]) rfl (M' := [(some _, cellM [_, _, _])]) rfl ?_
  refine st (OK1.as (Has.t rfl)) rfl ?_
  refine nl ?_
  refine At.thn (hK2 _ _ ?_); clear hK2
  refine Tri.cv (Cv.wk (.cons (t := 0) (Has.t rfl) (.cons (t := 1) (Has.t rfl) .nil))) ?_
  refine Tri.seq fun K3 hK3 => ?_
  refine Tri.region ?_
  refine st (OK1.load (Has.t rfl) (i := 0) rfl ty24 rfl (Ss' := [_, _, _]) rfl) rfl ?_
  refine st (OK1.eq (OK1.call (zchar_Char (n := 2) (K := 1) (xs := [1, 2, 3, 4].map nz) (by rw [vals_nz]; exact aw26_b) (by decide) (by decide) rfl) (.cons (Has.t rfl) .nil)) ((show _ = isTup [isP [-2, -5, 1], isI 0] from by rw [vals_nz, aw26]))) rfl ?_
  refine st (OK1.mv (Has.t rfl)) rfl ?_
  refine st (OK1.ext (Has.t rfl) rfl) rfl ?_
  refine st (OK1.ext (Has.t rfl) rfl) rfl ?_
  refine st (OK1.as (Has.t rfl)) rfl ?_
  refine st (OK1.as (Has.t rfl)) rfl ?_
  refine nl ?_
  refine At.thn (hK3 _ _ ?_); clear hK3
  refine Tri.cv (Cv.wk (.cons (t := 0) (Has.t rfl) (.cons (t := 3) (Has.t rfl) (.cons (t := 4) (Has.t rfl) .nil)))) ?_
  refine Tri.seq fun K4 hK4 => ?_
  refine Tri.region ?_
  refine st (OK1.mv (Has.t rfl)) rfl ?_
  refine st (OK1.eqI (Has.t rfl) (Has.cI 0 rfl)) rfl ?_
  refine st (OK1.mv (Has.t rfl)) rfl ?_
  refine stT rfl rfl (fun hg => have hg' := BP.t hg; OK1.mv (Has.t rfl)) rfl ?_
  refine stT rfl rfl (fun hg => have hg' := BP.t hg; OK1.buildS [isI 0, isI 0, isI 0] sl117 ty2 zero2 (fun _ _ => ⟨⟨rfl, by decide, by decide⟩, ⟨rfl, by decide, by decide⟩, ⟨rfl, by decide, by decide⟩, trivial⟩) rfl rfl (.cons (Has.cI (-2) rfl) rfl rfl rfl (.cons (Has.cI (-5) rfl) rfl rfl rfl (.cons (Has.cI 1 rfl) rfl rfl rfl .nil))) rfl (S := SlM isI [_, _, _]) rfl) rfl ?_
  refine stT rfl rfl (fun hg => have hg' := BP.t hg; OK1.eq (OK1.call (zpoly_Of (by decide)) (.cons (Has.g rfl hg) .nil)) ((show _ = isP [-2, -5, 1] from isPl_eq aw26_n))) rfl ?_
  refine stT rfl rfl (fun hg => have hg' := BP.t hg; OK1.eq (OK1.call (zpoly_Same (K := 1) (by rw [vals_nz]; exact aw26_q) (by rw [vals_nz]; exact aw26_q) (by decide) (by decide) (by decide)) (.cons (Has.g rfl hg) (.cons (Has.g rfl hg) .nil))) ((show isB _ = isB true from isB_eq (decide_eq_true (by rw [vals_nz]; exact aw26_s))))) rfl ?_
  refine st (OK1.pickAnd (Has.t rfl) (fun h => Has.g rfl h)) rfl ?_
  refine st (OK1.mv (Has.t rfl)) rfl ?_
  refine stT rfl rfl (fun hg => have hg' := BP.t hg; OK1.mv (Has.t rfl)) rfl ?_
  refine stT rfl rfl (fun hg => have hg' := BP.t hg; OK1.len sl34 (Has.g rfl hg)) rfl ?_
  refine stT rfl rfl (fun hg => have hg' := BP.t hg; OK1.eqI (Has.g rfl hg) (Has.cI 3 rfl)) rfl ?_
  refine st (OK1.pickAnd (Has.t rfl) (fun h => Has.g rfl h)) rfl ?_
  refine st (OK1.as (Has.t rfl)) rfl ?_
  refine nl ?_
  refine At.thn (hK4 _ _ ?_); clear hK4
  refine Tri.cv (Cv.wk (.cons (t := 0) (Has.t rfl) .nil)) ?_
  refine Tri.ret ?_
  refine rt1 (.inl rfl) Try.results9 rfl (.tmp (Has.t' rfl ?_) .nil)
  all_goals (rfl)
end Go.Proofs.Ytgkbekcpmbjbdaa
/- Determinants of polynomials, as the document tells them; the characteristic polynomial is one. No program here. -/
namespace Go.Ch
open Go.Dt Go.Pz Go.Nt Go.Mz Go.En Go.Hp
theorem pe_more {c : Nat → Int} {a b : Nat} (h : a ≤ b) (h0 : ∀ i, a ≤ i → i < b → c i = 0) (x : Int) : pe c b x = pe c a x := by
  induction b with
  | zero => rw [show a = 0 by omega]
  | succ b ih =>
    rcases Nat.lt_or_ge b a with g | g
    · rw [show a = b + 1 by omega]
    · rw [pe_succ, h0 b g (Nat.lt_succ_self b), Int.zero_mul, Int.add_zero, ih g fun i h1 h2 => h0 i h1 (by omega)]
theorem pe_mul (x : Int) : ∀ (a : Nat) (f g : Nat → Int) (b d : Nat), (∀ i, a ≤ i → f i = 0) → (∀ i, b ≤ i → g i = 0) → a + b ≤ d → pe (mul f g) d x = pe f a x * pe g b x
  | 0, f, g, b, d, hf, _, _ => by
    have : ∀ i, mul f g i = 0 := fun i => by
      rw [mul_congr (f' := fun _ => 0) (g' := g) (fun i => hf i (Nat.zero_le _)) (fun _ => rfl), mul_comm, mul_zero]
    show pe (mul f g) d x = 0 * _
    rw [Int.zero_mul]
    unfold pe
    exact sm_zero fun i _ => by rw [this, Int.zero_mul]
  | a + 1, f, g, b, d, hf, hg, hd => by
    obtain ⟨d, rfl⟩ : ∃ e, d = e + 1 := ⟨d - 1, by omega⟩
    have ih := pe_mul x a (fun i => f (i + 1)) g b d (fun i hi => hf (i + 1) (by omega)) hg (by omega)
    rw [pe_left (mul f g), pe_left f]
    have e1 : pe (fun i => mul f g (i + 1)) d x = f 0 * pe (fun i => g (i + 1)) d x + 1 * pe (mul (fun i => f (i + 1)) g) d x := by
      rw [← pe_lin]
      exact pe_congr (fun i _ => by show f 0 * g (i + 1) + mul (fun i => f (i + 1)) g i = _; omega) x
    have e2 : pe g (d + 1) x = pe g b x := pe_more (by omega) (fun i h1 _ => hg i h1) x
    have e3 : pe g (d + 1) x = g 0 + x * pe (fun i => g (i + 1)) d x := pe_left g d x
    rw [e1, ih]
    show f 0 * g 0 + _ = _
    have e4 : pe g b x = g 0 + x * pe (fun i => g (i + 1)) d x := by rw [← e2, e3]
    rw [e4]
    generalize pe (fun i => g (i + 1)) d x = u
    generalize pe (fun i => f (i + 1)) a x = w
    grind
/-- a list's value -/
def ev (l : List Int) (x : Int) : Int := pe (cf l) l.length x
theorem ev_more {l : List Int} {d : Nat} (h : l.length ≤ d) (x : Int) : pe (cf l) d x = ev l x := pe_more h (fun i h1 _ => cf_high h1) x
theorem ev_radd (a b : List Int) (x : Int) : ev (radd a b) x = ev a x + ev b x := by
  have h1 : ev (radd a b) x = pe (fun i => 1 * cf a i + 1 * cf b i) (max a.length b.length) x := by
    unfold ev
    rw [radd_len]
    exact pe_congr (fun i _ => by rw [cf_radd]; omega) x
  rw [h1, pe_lin, ev_more (by omega), ev_more (by omega)]; omega
theorem ev_rmul (a b : List Int) (x : Int) : ev (rmul a b) x = ev a x * ev b x := by
  have h1 : ev (rmul a b) x = pe (mul (cf a) (cf b)) (a.length + b.length) x := by
    unfold ev
    rw [rmul_len]
    exact pe_congr (fun i _ => cf_rmul a b i) x
  rw [h1]
  exact pe_mul x a.length (cf a) (cf b) b.length _ (fun i hi => cf_high hi) (fun i hi => cf_high hi) (Nat.le_refl _)
/-! ### determinants -/
def pdx (k : Nat) (y : List Int) : List Int := if k % 2 = 1 then rmul y [-1] else y
def pd : Nat → (Nat → Nat → List Int) → List Int
  | 0, _ => [1]
  | n + 1, P => (List.range (n + 1)).foldl (fun out k => radd out (pdx k (rmul (P 0 k) (pd n fun i j => P (i + 1) (skip k j))))) []
/-- the first ones of the sum -/
def pdS (n : Nat) (P : Nat → Nat → List Int) (m : Nat) : List Int := (List.range m).foldl (fun out k => radd out (pdx k (rmul (P 0 k) (pd n fun i j => P (i + 1) (skip k j))))) []
theorem pd_succ (n : Nat) (P : Nat → Nat → List Int) : pd (n + 1) P = pdS n P (n + 1) := rfl
theorem pdS_succ (n : Nat) (P : Nat → Nat → List Int) (m : Nat) : pdS n P (m + 1) = radd (pdS n P m) (pdx m (rmul (P 0 m) (pd n fun i j => P (i + 1) (skip m j)))) := by
  unfold pdS
  rw [List.range_succ, List.foldl_append]; rfl
theorem ev_pdx (k : Nat) (y : List Int) (x : Int) : ev (pdx k y) x = sg k * ev y x := by
  unfold pdx sg
  split
  · rw [ev_rmul]
    have : ev [-1] x = -1 := by show 0 + -1 * x ^ 0 = -1; rw [Int.pow_zero]; rfl
    rw [this, Int.mul_comm]
  · omega
theorem pd_ev (x : Int) : ∀ (n : Nat) (P : Nat → Nat → List Int), ev (pd n P) x = det n fun i j => ev (P i j) x
  | 0, P => by show 0 + 1 * x ^ 0 = 1; rw [Int.pow_zero]; rfl
  | n + 1, P => by
    rw [pd_succ, det_succ]
    have key : ∀ m, ev (pdS n P m) x = sm m fun k => sg k * (ev (P 0 k) x * det n fun i j => ev (P (i + 1) (skip k j)) x) := by
      intro m
      induction m with
      | zero => rfl
      | succ m ih =>
        rw [pdS_succ, ev_radd, ih, ev_pdx, ev_rmul, pd_ev x n]; rfl
    exact key (n + 1)
theorem pd_congr : ∀ {n : Nat} {P Q : Nat → Nat → List Int}, (∀ i j, i < n → j < n → P i j = Q i j) → pd n P = pd n Q
  | 0, _, _, _ => rfl
  | n + 1, P, Q, h => by
    rw [pd_succ, pd_succ]
    have key : ∀ m, m ≤ n + 1 → pdS n P m = pdS n Q m := by
      intro m
      induction m with
      | zero => intro _; rfl
      | succ m ih =>
        intro hm
        rw [pdS_succ, pdS_succ, ih (by omega), h 0 m (by omega) (by omega), pd_congr (n := n) (P := fun i j => P (i + 1) (skip m j)) (Q := fun i j => Q (i + 1) (skip m j)) fun i j hi hj => h (i + 1) (skip m j) (by omega) (skip_lt hj)]
    exact key (n + 1) (Nat.le_refl _)
/-- x less the matrix, as polynomials -/
def xmP (A : MatF) (i j : Nat) : List Int := if i = j then [-(A i j), 1] else [-(A i j)]
theorem xmP_ev (A : MatF) (i j : Nat) (x : Int) : ev (xmP A i j) x = xm A x i j := by
  unfold xmP xm one
  by_cases h : i = j
  · rw [if_pos h, if_pos h]
    show 0 + -(A i j) * x ^ 0 + 1 * x ^ 1 = _
    rw [Int.pow_zero, Int.pow_succ, Int.pow_zero]; omega
  · rw [if_neg h, if_neg h]
    show 0 + -(A i j) * x ^ 0 = _
    rw [Int.pow_zero]; omega
theorem pd_char (n : Nat) (L : List Int) : ∀ i, cf (chL n L) i = cf (pd n (xmP (mf n L))) i := fun i => by
  obtain ⟨d, hd⟩ : ∃ d, d = (chL n L).length + (pd n (xmP (mf n L))).length + i + 1 := ⟨_, rfl⟩
  refine pe_inj (d := d) (fun x => ?_) i (by omega)
  rw [ev_more (by omega), ev_more (by omega), pd_ev]
  have e : (det n fun i j => ev (xmP (mf n L) i j) x) = det n (xm (mf n L) x) := det_congr fun i j _ _ => xmP_ev _ i j x
  rw [e, cp_ev]
  show pe (cf (chL n L)) (chL n L).length x = _
  rw [chL_len]
  exact pe_congr (fun i hi => chL_at (by omega)) x
/-! ### sizes -/
theorem pdx_len (k : Nat) (y : List Int) : (pdx k y).length ≤ y.length + 1 := by
  unfold pdx
  split
  · rw [rmul_len]; exact Nat.le_refl _
  · omega
theorem pd_len : ∀ (n : Nat) (P : Nat → Nat → List Int), (∀ i j, (P i j).length ≤ 2) → (pd n P).length ≤ 1 + 3 * n
  | 0, _, _ => Nat.le_refl _
  | n + 1, P, h => by
    rw [pd_succ]
    have key : ∀ m, (pdS n P m).length ≤ 1 + 3 * (n + 1) := by
      intro m
      induction m with
      | zero => exact Nat.zero_le _
      | succ m ih =>
        rw [pdS_succ, radd_len]
        have h1 := pdx_len m (rmul (P 0 m) (pd n fun i j => P (i + 1) (skip m j)))
        rw [rmul_len] at h1
        have h2 := pd_len n (fun i j => P (i + 1) (skip m j)) fun i j => h _ _
        have h3 := h 0 m
        omega
    exact key (n + 1)
theorem pdx_bd {k K : Nat} {y : List Int} (h : Bd y K) : Bd (pdx k y) (K + 1 + y.length) := by
  unfold pdx
  split
  · exact h.rmul (bd64 (by decide))
  · exact h.mono (by omega)
def pdB (K : Nat) : Nat → Nat
  | 0 => 1
  | n + 1 => K + pdB K n + 2 + 1 + (3 + 3 * n) + (n + 1)
theorem pd_bd {K : Nat} : ∀ (n : Nat) (P : Nat → Nat → List Int), (∀ i j, (P i j).length ≤ 2) → (∀ i j, Bd (P i j) K) → Bd (pd n P) (pdB K n)
  | 0, _, _, _ => show Bd [1] 1 from bd64 (by decide)
  | n + 1, P, h, hb => by
    rw [pd_succ]
    have key : ∀ m, Bd (pdS n P m) (K + pdB K n + 2 + 1 + (3 + 3 * n) + m) := by
      intro m
      induction m with
      | zero => exact Bd.nil _
      | succ m ih =>
        rw [pdS_succ]
        have h1 := pd_bd n (fun i j => P (i + 1) (skip m j)) (fun i j => h _ _) fun i j => hb _ _
        have h2 := (hb 0 m).rmul h1
        have h4 := h 0 m
        have h6 := pd_len n (fun i j => P (i + 1) (skip m j)) fun i j => h _ _
        have h3 := pdx_bd (k := m) h2
        rw [rmul_len] at h3
        exact (ih.radd (h3.mono (by omega))).mono (by omega)
    exact key (n + 1)
theorem pdS_bd {n K : Nat} {P : Nat → Nat → List Int} (h : ∀ i j, (P i j).length ≤ 2) (hb : ∀ i j, Bd (P i j) K) : ∀ m, Bd (pdS n P m) (K + pdB K n + 2 + 1 + (3 + 3 * n) + m) := by
  intro m
  induction m with
  | zero => exact Bd.nil _
  | succ m ih =>
    rw [pdS_succ]
    have h1 := pd_bd n (fun i j => P (i + 1) (skip m j)) (fun i j => h _ _) fun i j => hb _ _
    have h2 := (hb 0 m).rmul h1
    have h4 := h 0 m
    have h6 := pd_len n (fun i j => P (i + 1) (skip m j)) fun i j => h _ _
    have h3 := pdx_bd (k := m) h2
    rw [rmul_len] at h3
    exact (ih.radd (h3.mono (by omega))).mono (by omega)
theorem pdS_len {n : Nat} {P : Nat → Nat → List Int} (h : ∀ i j, (P i j).length ≤ 2) : ∀ m, (pdS n P m).length ≤ 1 + 3 * (n + 1) := by
  intro m
  induction m with
  | zero => exact Nat.zero_le _
  | succ m ih =>
    rw [pdS_succ, radd_len]
    have h1 := pdx_len m (rmul (P 0 m) (pd n fun i j => P (i + 1) (skip m j)))
    rw [rmul_len] at h1
    have h2 := pd_len n (fun i j => P (i + 1) (skip m j)) fun i j => h _ _
    have h3 := h 0 m
    omega
/-! ### as lists of lists -/
def pmF (rows : List (List (List Int))) (i j : Nat) : List Int := (rows.getD i []).getD j []
/-- a row without a place -/
def cutR (k : Nat) (r : List (List Int)) : List (List Int) := r.take k ++ r.drop (k + 1)
def mnr (rows : List (List (List Int))) (k : Nat) : List (List (List Int)) := (rows.drop 1).map (cutR k)
theorem cutR_len {k n : Nat} {r : List (List Int)} (h : r.length = n + 1) (hk : k < n + 1) : (cutR k r).length = n := by
  unfold cutR; rw [List.length_append, List.length_take, List.length_drop]; omega
theorem cutR_at {k j n : Nat} {r : List (List Int)} (h : r.length = n + 1) (hk : k < n + 1) (hj : j < n) : (cutR k r).getD j [] = r.getD (skip k j) [] := by
  unfold cutR skip
  rw [List.getD, List.getD]
  by_cases g : j < k
  · rw [if_pos g, List.getElem?_append_left (by rw [List.length_take]; omega), List.getElem?_take_of_lt g]
  · rw [if_neg g, List.getElem?_append_right (by rw [List.length_take]; omega), List.length_take, List.getElem?_drop, show k + 1 + (j - min k r.length) = j + 1 by omega]
theorem mnr_len {n k : Nat} {rows : List (List (List Int))} (h : rows.length = n + 1) : (mnr rows k).length = n := by unfold mnr; rw [List.length_map, List.length_drop]; omega
theorem mnr_row {n k : Nat} {rows : List (List (List Int))} (hk : k < n + 1) (hr : ∀ r ∈ rows, r.length = n + 1) : ∀ r ∈ mnr rows k, r.length = n := fun r h => by
  obtain ⟨q, hq, rfl⟩ := List.mem_map.1 h
  exact cutR_len (hr q (List.mem_of_mem_drop hq)) hk
theorem mnr_at {n k i j : Nat} {rows : List (List (List Int))} (hl : rows.length = n + 1) (hk : k < n + 1) (hr : ∀ r ∈ rows, r.length = n + 1) (hi : i < n) (hj : j < n) : pmF (mnr rows k) i j = pmF rows (i + 1) (skip k j) := by
  unfold pmF mnr
  have e : (rows.drop 1)[i]? = some (rows.getD (i + 1) []) := by
    rw [List.getElem?_drop, Nat.add_comm 1 i, List.getD, List.getElem?_eq_getElem (by omega)]; rfl
  have e2 : ((rows.drop 1).map (cutR k)).getD i [] = cutR k (rows.getD (i + 1) []) := by rw [List.getD, List.getElem?_map, e]; rfl
  rw [e2]
  exact cutR_at (hr _ (by rw [List.getD, List.getElem?_eq_getElem (by omega)]; exact List.getElem_mem _)) hk hj
/-- each entry is small -/
def smallP (K : Nat) (rows : List (List (List Int))) : Prop := ∀ r ∈ rows, ∀ p ∈ r, p.length ≤ 2 ∧ Bd p K
theorem smallP.at {K : Nat} {rows : List (List (List Int))} (h : smallP K rows) (i j : Nat) : (pmF rows i j).length ≤ 2 ∧ Bd (pmF rows i j) K := by
  unfold pmF
  rcases Nat.lt_or_ge i rows.length with hi | hi
  · have e : rows.getD i [] = rows[i] := by rw [List.getD, List.getElem?_eq_getElem hi]; rfl
    rw [e]
    rcases Nat.lt_or_ge j rows[i].length with hj | hj
    · have e2 : rows[i].getD j [] = rows[i][j] := by rw [List.getD, List.getElem?_eq_getElem hj]; rfl
      rw [e2]
      exact h _ (List.getElem_mem hi) _ (List.getElem_mem hj)
    · rw [List.getD, List.getElem?_eq_none hj]
      exact ⟨Nat.zero_le _, Bd.nil _⟩
  · have e : rows.getD i [] = [] := by rw [List.getD, List.getElem?_eq_none hi]; rfl
    rw [e]
    exact ⟨Nat.zero_le _, Bd.nil _⟩
theorem smallP.mnr {K k : Nat} {rows : List (List (List Int))} (h : smallP K rows) : smallP K (mnr rows k) := fun r hr p hp => by
  obtain ⟨q, hq, rfl⟩ := List.mem_map.1 hr
  unfold cutR at hp
  rcases List.mem_append.1 hp with g | g
  · exact h q (List.mem_of_mem_drop hq) p (List.mem_of_mem_take g)
  · exact h q (List.mem_of_mem_drop hq) p (List.mem_of_mem_drop g)
end Go.Ch
/- What a call may read of memory that is still its caller's to write: lent for the call alone. -/
namespace Go.En
open Go.RowKit
set_option linter.unusedVariables false
section
variable {E : Env} {P : Program} {Γ : Ctx} {M : Mem} {ty : TypeId} {pos : String} {after : Array Edge} {gd : Option (Nat × Bool)} {d : Option Tmp}
  {ops : Array Oper} {Q : Exit → Act → World → Prop} {rest : List Oper} {T T' : TypeId} {x y : Operand} {α : Type} {f : α → VP} {xs : List α}
/-- elements appended, or none -/
theorem Ops.appendG0 {i : Nat} {e : TypeId} {g0 : Bool} {z : Value} {u : α} {g : Gr α} {ys zs : List α} (hT : slB P T = some e) (ht : tyB P e = some (1, g0)) (hz : zeroB P e = some z) (hZ : ∀ w F, All2 [f u] w F z.cells.toList) (h1 : ∀ u, One (f u)) (hby : byLe P e 1024 = true)
    (hx : Has E Γ M x (isGr g ys.length)) (hM : M[i]? = some (grM f g ys)) (hy : Has E Γ M y (SlM f zs)) (hn' : ys.length + zs.length ≤ 4294967296) {d' : Nat} (hd : Nat.blt d' E.n = true)
    (k : ∀ g' : Gr α, Ops E P ops Q rest ((d', isGr g' (ys ++ zs).length) :: Γ) (M.set i (grM f g' (ys ++ zs)))) :
    Ops E P ops Q (⟨some d', .call ⟨.builtin .append, #[x, y], #[T, T]⟩, ty, pos, after, none⟩ :: rest) Γ M := by
  have e1 : ∀ (g : Gr α) (l : List α), grMK (fun a => [f a]) g l = grM f g l := fun g l => by unfold grMK grM; rw [flat1]
  have e2 : (SlK 1 (fun a => [f a]) zs : VP) = SlM f zs := by unfold SlK SlM; rw [flat1]
  refine Ops.appendGK0 (k := 1) (fk := fun a => [f a]) (u := u) (g := g) (ys := ys) (zs := zs) (i := i) (fun _ => rfl) (by decide) (fun u => by have := h1 u; exact inferInstance) hT ht hz hZ hby hx (by rw [hM, e1]) (e2 ▸ hy) hn' hd fun g' => ?_
  rw [e1, ← List.length_append]; exact k g'
end
end Go.En
/- A slice that is built, and may grow; rows of polynomials. -/
namespace Go.En
open Go.RowKit Go.Pz Go.Nt Go.Mz
set_option linter.unusedVariables false
abbrev isRw (r : List (List Int)) : VP := SlM isP r
section
variable {E : Env} {P : Program} {Γ : Ctx} {M : Mem} {ty : TypeId} {pos : String} {after : Array Edge}
  {ops : Array Oper} {Q : Exit → Act → World → Prop} {rest : List Oper} {T : TypeId} {α : Type} {fk : α → List VP} {xs : List α} {k : Nat}
theorem Ops.buildGK {d : Nat} {e : TypeId} {n : Nat} {g : Bool} {z : Value} {ps : List (Nat × Operand)} (Z : List VP) {Z' : List VP} (hT : slB P T = some e) (ht : tyB P e = some (k, g)) (hz : zeroB P e = some z) (hZ : ∀ w F, All2 Z w F ((List.replicate n z.cells.toList).flatten)) (hnm : Nat.ble (n * k) 1000 = true) (hn0 : Nat.beq (n * k) 0 = false)
    (h : Parts E Γ M (fun i => some (i * k, k)) Z ps Z') (hl : Nat.beq Z'.length (n * k) = true) (hS : Z' = xs.flatMap fk) (hn : n = xs.length) (hd : Nat.blt d E.n = true)
    (kk : ∀ b, Ops E P ops Q rest ((d, isGr (⟨some b, n, []⟩ : Gr α) xs.length) :: Γ) (grMK fk ⟨some b, n, []⟩ xs :: M)) : Ops E P ops Q (⟨some d, .buildSlice T n ps.toArray, ty, pos, after, none⟩ :: rest) Γ M := by
  intro a w F s
  refine wpList_plain rfl fun K hK => ?_
  have hu := slB_under hT
  have hnm' := Nat.le_of_ble_eq_true hnm
  have hn0' := Nat.ne_of_beq_eq_false hn0
  have hm : (n * z.cells.size) = n * k := by
    have h1 := (hZ w F).len
    have h2 := Nat.eq_of_beq_eq_true hl
    have h3 : Z'.length = Z.length := by
      clear h1 h2 hK hZ hS hl
      induction h with
      | nil => rfl
      | @cons Z Z' i off k x S0 Ss r sh a1 a2 a3 a4 _ ih =>
        rw [ih, spliceV_eq _ _ _ (by have := Nat.le_of_ble_eq_true a4; have := Nat.eq_of_beq_eq_true a3; omega)]
        have := Nat.le_of_ble_eq_true a4; have := Nat.eq_of_beq_eq_true a3
        simp; omega
    simp at h1
    omega
  have hz0 : z.cells.size = k := by
    rcases Nat.eq_zero_or_pos n with h0 | h0
    · subst h0; simp at hn0'
    · exact Nat.eq_of_mul_eq_mul_left h0 hm
  have hfl : ((Array.range (n * k)).map fun j => z.cells[j % z.cells.size]!) = ((List.replicate n z.cells.toList).flatten).toArray := make_flat hz0
  obtain ⟨cells, h1, h2⟩ := h.fill s ((List.replicate n z.cells.toList).flatten).toArray (by simpa using hZ w F)
  have hr : (execOp a.eval (⟨some d, .buildSlice T n ps.toArray, ty, pos, after, none⟩ : Oper)).run P w = .ok (.value (.slice (some ⟨w.heap.size, 0, none⟩) n n)) { w with heap := w.heap.push (.cells cells.toList.toArray e) } := by
    have hmap : (ps.toArray.map fun (p : Nat × Operand) => (p.1, a.eval p.2)).toList = ps.map fun p => (p.1, a.eval p.2) := by simp
    have hbig : ¬ n * k > 2 ^ 24 := by omega
    simp only [execOp, Instr.buildSlice, Sem.run_bind, run_under hu, Result.andThen_ok, run_size ht, if_neg hbig, if_neg hn0', run_zero hz, Sem.run_pure, hmap, hfl, h1, newRow, run_newObj]
  unfold Oper.wp
  rw [hr]
  subst hS
  have s1 := s.alloc (T := e) h2
  have hd' : d < E.n := by simpa [Nat.blt_eq] using hd
  have hk0 : 0 < k := by
    rcases Nat.eq_zero_or_pos k with h0 | h0
    · subst h0; simp at hn0'
    · exact h0
  have hnk := Nat.le_mul_of_pos_right n hk0
  have hM : grMK fk (⟨some w.heap.size, n, []⟩ : Gr α) xs = (some w.heap.size, cellM (xs.flatMap fk)) := by unfold grMK; rw [List.append_nil]
  have k1 := kk w.heap.size
  rw [hM] at k1
  exact hK _ _ (k1 _ _ F (s1.put hd' (.inr ⟨w.heap.size, rfl, by rw [hn], by simp [hn], by show n ≤ maxLen; rw [maxLen_eq]; omega⟩)))
end
end Go.En
/- Contracts: the document's determinants of polynomials. -/
namespace Go.Proofs.Ytgkbekcpmbjbdaa
open Go.En Go.RowKit
set_option linter.unusedVariables false
set_option maxRecDepth 10000
open Go.Nt
open Go.Pz
open Go.Mz
open Go.Hn
open Go.Hp
open Go.Dt
open Go.Ch
theorem pdB_le {K : Nat} (hK : K ≤ 100) : ∀ {n : Nat}, n ≤ 8 → pdB K n ≤ 2000 := by
  have key : ∀ n, n ≤ 8 → pdB K n ≤ 1 + n * 150 := by
    intro n
    induction n with
    | zero => intro _; exact Nat.le_refl _
    | succ n ih =>
      intro h
      have := ih (by omega)
      show K + pdB K n + 2 + 1 + (3 + 3 * n) + (n + 1) ≤ _
      omega
  intro n h
  have := key n h
  omega
theorem take_map_succ2 {α β : Type} (f : α → β) {l : List α} {i : Nat} {x : α} (h : l[i]? = some x) : (l.take (i + 1)).map f = (l.take i).map f ++ [f x] := by
  have hi : i < l.length := by
    rcases Nat.lt_or_ge i l.length with g | g
    · exact g
    · rw [List.getElem?_eq_none g] at h; cases h
  rw [List.getElem?_eq_getElem hi] at h
  rw [List.take_succ_eq_append_getElem hi, List.map_append, Option.some.inj h]; rfl
set_option maxHeartbeats 4000000 in
theorem ref26_Det0  : Ctr Try.prog 72 [SlM isRw []] (isP [1]) := by
  refine Ctr.intro Try.func72 rfl (by kernel_rfl) Try.ntmps72 rfl fun w0 F0 => ?_
  refine Tri.cv (Cv.wk (.cons (t := 0) (Has.t rfl) .nil)) ?_
  refine Tri.fact (Has.lenLt (Has.t (t := 0) rfl)) fun lt0 => ?_
  refine Tri.seq fun K1 hK1 => ?_
  refine Tri.region ?_
  refine st (OK1.as (Has.cWK (k := 2) (fk := zc))) rfl ?_
  refine nl ?_
  refine At.thn (hK1 _ _ ?_); clear hK1
  refine Tri.seq fun K2 hK2 => ?_
  refine Tri.seq fun K3 hK3 => ?_
  refine Tri.region ?_
  refine st (OK1.mv (Has.t rfl)) rfl ?_
  refine st (OK1.len sl92 (Has.t rfl)) rfl ?_
  refine st (OK1.eqI (Has.t rfl) (Has.cI 0 rfl)) rfl ?_
  refine nl ?_
  refine At.thn (hK3 _ _ ?_); clear hK3
  refine Tri.cond (Has.t rfl) (fun hc1 => ?_) (fun hc1 => ?_)
  · have hc1 := BP.t hc1
    refine Tri.seq fun K4 hK4 => ?_
    refine Tri.region ?_
    refine st (OK1.call (zint_Of) (.cons (Has.cI 1 rfl) .nil)) rfl ?_
    refine st (OK1.buildS [isB false, SlM isU []] sl22 ty44 zero44 (fun _ _ => ⟨rfl, nilM _ _, trivial⟩) rfl rfl (.cons (Has.t rfl) rfl rfl rfl .nil) rfl (S := SlK 2 zc [nz 1]) rfl) rfl ?_
    refine st (OK1.as (Has.t rfl)) rfl ?_
    refine nl ?_
    refine At.thn (hK4 _ _ ?_); clear hK4
    refine Tri.cv (Cv.wk (.cons (t := 0) (Has.t rfl) (.cons (t := 2) (Has.t rfl) .nil))) ?_
    refine Tri.ret ?_
    refine At.thr ?_
    refine rt1 (.inl rfl) Try.results72 rfl (.tmp (Has.t' rfl ?_) .nil)
    all_goals (rfl)
  · have hc1 := BP.f hc1
    exact absurd rfl hc1
set_option maxHeartbeats 4000000 in
theorem ref26_DetS {n K : Nat} {rows : List (List (List Int))} (hl : rows.length = n + 1) (hr : ∀ r ∈ rows, r.length = n + 1) (hs : smallP K rows) (hK : K ≤ 100) (hn : n ≤ 8) (ih : ∀ rows' : List (List (List Int)), rows'.length = n → (∀ r ∈ rows', r.length = n) → smallP K rows' → Ctr Try.prog 72 [SlM isRw rows'] (isP (pd n (pmF rows')))) : Ctr Try.prog 72 [SlM isRw rows] (isP (pd (n + 1) (pmF rows))) := by
  refine Ctr.intro Try.func72 rfl (by kernel_rfl) Try.ntmps72 rfl fun w0 F0 => ?_
  refine Tri.cv (Cv.wk (.cons (t := 0) (Has.t rfl) .nil)) ?_
  refine Tri.fact (Has.lenLt (Has.t (t := 0) rfl)) fun lt0 => ?_
  have hPl : ∀ i j, (pmF rows i j).length ≤ 2 := fun i j => (hs.at i j).1
  have hPb : ∀ i j, Bd (pmF rows i j) K := fun i j => (hs.at i j).2
  have hpB := pdS_bd hPl hPb (n := n)
  have hpL := pdS_len hPl (n := n)
  obtain ⟨r0, h0⟩ : ∃ r, rows[0]? = some r := ⟨_, List.getElem?_eq_getElem (by omega)⟩
  have hr0 := hr r0 (List.mem_of_getElem? h0)
  have hBn : pdB K n ≤ 2000 := pdB_le hK hn
  refine Tri.seq fun K1 hK1 => ?_
  refine Tri.region ?_
  refine st (OK1.as (Has.cWK (k := 2) (fk := zc))) rfl ?_
  refine nl ?_
  refine At.thn (hK1 _ _ ?_); clear hK1
  refine Tri.seq fun K2 hK2 => ?_
  refine Tri.seq fun K3 hK3 => ?_
  refine Tri.region ?_
  refine st (OK1.mv (Has.t rfl)) rfl ?_
  refine st (OK1.len sl92 (Has.t rfl)) rfl ?_
  refine st (OK1.eqI (Has.t rfl) (Has.cI 0 rfl)) rfl ?_
  refine nl ?_
  refine At.thn (hK3 _ _ ?_); clear hK3
  refine Tri.cond (Has.t rfl) (fun hc1 => ?_) (fun hc1 => ?_)
  · have hc1 := BP.t hc1
    omega
  · have hc1 := BP.f hc1
    refine Tri.skip ?_
    refine At.thn (hK2 _ _ ?_); clear hK2
    refine Tri.seq fun K4 hK4 => ?_
    refine Tri.region ?_
    refine st (OK1.as (Has.cWK (k := 2) (fk := zc))) rfl ?_
    refine nl ?_
    refine At.thn (hK4 _ _ ?_); clear hK4
    refine Tri.seq fun K5 hK5 => ?_
    refine Tri.seq fun K6 hK6 => ?_
    refine Tri.region ?_
    refine st (OK1.as (Has.cI 0 rfl)) rfl ?_
    refine nl ?_
    refine At.thn (hK6 _ _ ?_); clear hK6
    refine Tri.block ?_
    refine Tri.loopF [0, 2] (fun (z : { k : Nat // k ≤ n + 1 }) => match z with | ⟨k, hk⟩ => [(4, isI (k : Int)), (3, isP (pdS n (pmF rows) k))]) (fun M => fun (z : { k : Nat // k ≤ n + 1 }) => match z with | ⟨k, hk⟩ => M) (fun (z : { k : Nat // k ≤ n + 1 }) => match z with | ⟨k, hk⟩ => n + 1 - k) (⟨0, Nat.zero_le _⟩) (Cv.mem (.cons (t := 4) (Has.t' rfl ?_) (.cons (t := 3) (Has.t' rfl ?_) (.cons (t := 0) (Has.t rfl) (.cons (t := 2) (Has.t rfl) .nil)))) ?_) ?_
    · rfl
    · rfl
    · rfl
    rintro ⟨k, hk⟩ K7 hK7
    refine Tri.cv (Cv.wk (.cons (t := 4) (Has.t rfl) (.cons (t := 3) (Has.t rfl) (.cons (t := 0) (Has.t rfl) (.cons (t := 2) (Has.t rfl) .nil))))) ?_
    refine Tri.seq fun K8 hK8 => ?_
    refine Tri.seq fun K9 hK9 => ?_
    refine Tri.region ?_
    refine st (OK1.mv (Has.t rfl)) rfl ?_
    refine st (OK1.mv (Has.t rfl)) rfl ?_
    refine st (OK1.len sl92 (Has.t rfl)) rfl ?_
    refine st (OK1.ltI (Has.t rfl) (Has.t rfl)) rfl ?_
    refine nl ?_
    refine At.thn (hK9 _ _ ?_); clear hK9
    refine Tri.cond (Has.t rfl) (fun hc2 => ?_) (fun hc2 => ?_)
    · have hc2 := BP.t hc2
      have hk1 : k < n + 1 := (by omega)
      obtain ⟨p0, hp0⟩ : ∃ p, r0[k]? = some p := ⟨_, List.getElem?_eq_getElem (by omega)⟩
      have e0 : rows.getD 0 [] = r0 := by rw [List.getD, h0]; rfl
      have hp00 : pmF rows 0 k = p0 := by unfold pmF; rw [e0, List.getD, hp0]; rfl
      have hp0l : p0.length ≤ 2 := by rw [← hp00]; exact hPl 0 k
      have hp0b : Bd p0 K := by rw [← hp00]; exact hPb 0 k
      obtain ⟨D, hD⟩ : ∃ D, D = (pd n fun i j => pmF rows (i + 1) (skip k j)) := ⟨_, rfl⟩
      have hDb : Bd D (pdB K n) := by rw [hD]; exact pd_bd n _ (fun i j => hPl _ _) fun i j => hPb _ _
      have hDl : D.length ≤ 1 + 3 * n := by rw [hD]; exact pd_len n _ fun i j => hPl _ _
      have hMl := rmul_len p0 D
      have hMb := hp0b.rmul hDb
      have hsk := hpB k
      have hskl := hpL k
      have hsu := pdS_succ n (pmF rows) k
      rw [hp00, ← hD] at hsu
      have hxl := pdx_len k (rmul p0 D)
      have hxb := pdx_bd (k := k) hMb
      refine Tri.skip ?_
      refine At.thn (hK8 _ _ ?_); clear hK8
      refine Tri.seq fun K10 hK10 => ?_
      refine Tri.block ?_
      refine Tri.seq fun K11 hK11 => ?_
      refine Tri.region ?_
      refine Ops.cv (Cv.grow0 (α := List (List Int)) isRw) ?_
      refine st (OK1.as (Has.cGr (α := List (List Int)))) rfl ?_
      refine nl ?_
      refine At.thn (hK11 _ _ ?_); clear hK11
      refine Tri.seq fun K12 hK12 => ?_
      refine Tri.seq fun K13 hK13 => ?_
      refine Tri.region ?_
      refine st (OK1.as (Has.cI 1 rfl)) rfl ?_
      refine nl ?_
      refine At.thn (hK13 _ _ ?_); clear hK13
      refine Tri.block ?_
      refine Tri.loopF [0, 2, 4, 3, 14, 15, 16, 17] (fun (z : { z : Nat × Gr (List (List Int)) // z.1 ≤ n }) => match z with | ⟨(i, g), hI⟩ => [(6, isI ((i + 1 : Nat) : Int)), (5, isGr g (((rows.drop 1).take i).map (cutR k)).length)]) (fun M => fun (z : { z : Nat × Gr (List (List Int)) // z.1 ≤ n }) => match z with | ⟨(i, g), hI⟩ => [grM isRw g (((rows.drop 1).take i).map (cutR k))]) (fun (z : { z : Nat × Gr (List (List Int)) // z.1 ≤ n }) => match z with | ⟨(i, g), hI⟩ => n - i) (⟨(0, Gr.nil), Nat.zero_le _⟩) (Cv.mem (.cons (t := 6) (Has.t' rfl ?_) (.cons (t := 5) (Has.t' rfl ?_) (.cons (t := 0) (Has.t rfl) (.cons (t := 2) (Has.t rfl) (.cons (t := 4) (Has.t rfl) (.cons (t := 3) (Has.t rfl) (.cons (t := 14) (Has.t rfl) (.cons (t := 15) (Has.t rfl) (.cons (t := 16) (Has.t rfl) (.cons (t := 17) (Has.t rfl) .nil)))))))))) ?_) ?_
      · exact isI_eq (by omega)
      · rfl
      · rfl
      rintro ⟨⟨i, g⟩, hI⟩ K14 hK14
      refine Tri.cv (Cv.wk (.cons (t := 6) (Has.t rfl) (.cons (t := 5) (Has.t rfl) (.cons (t := 0) (Has.t rfl) (.cons (t := 2) (Has.t rfl) (.cons (t := 4) (Has.t rfl) (.cons (t := 3) (Has.t rfl) (.cons (t := 14) (Has.t rfl) (.cons (t := 15) (Has.t rfl) (.cons (t := 16) (Has.t rfl) (.cons (t := 17) (Has.t rfl) .nil))))))))))) ?_
      refine Tri.memEq (M' := [grM isRw g (((rows.drop 1).take i).map (cutR k))]) rfl ?_
      simp only [] at hI
      have hgl : (((rows.drop 1).take i).map (cutR k)).length = i := by rw [List.length_map, List.length_take, List.length_drop]; omega
      refine Tri.seq fun K15 hK15 => ?_
      refine Tri.seq fun K16 hK16 => ?_
      refine Tri.region ?_
      refine st (OK1.mv (Has.t rfl)) rfl ?_
      refine st (OK1.mv (Has.t rfl)) rfl ?_
      refine st (OK1.len sl92 (Has.t rfl)) rfl ?_
      refine st (OK1.ltI (Has.t rfl) (Has.t rfl)) rfl ?_
      refine nl ?_
      refine At.thn (hK16 _ _ ?_); clear hK16
      refine Tri.cond (Has.t rfl) (fun hc3 => ?_) (fun hc3 => ?_)
      · have hc3 := BP.t hc3
        obtain ⟨r, hri⟩ : ∃ r, rows[i + 1]? = some r := ⟨_, List.getElem?_eq_getElem (by omega)⟩
        have hrl := hr r (List.mem_of_getElem? hri)
        have hcl := cutR_len hrl hk1
        have hdr : (rows.drop 1)[i]? = some r := by rw [List.getElem?_drop, Nat.add_comm 1 i]; exact hri
        refine Tri.skip ?_
        refine At.thn (hK15 _ _ ?_); clear hK15
        refine Tri.seq fun K17 hK17 => ?_
        refine Tri.block ?_
        refine Tri.seq fun K18 hK18 => ?_
        refine Tri.region ?_
        refine Ops.cv (Cv.grow0 (α := List Int) isP) ?_
        refine st (OK1.as (Has.cGr (α := List Int))) rfl ?_
        refine nl ?_
        refine At.thn (hK18 _ _ ?_); clear hK18
        refine Tri.seq fun K19 hK19 => ?_
        refine Tri.region ?_
        refine st (OK1.mv (Has.t rfl)) rfl ?_
        refine st (OK1.mv (Has.t rfl)) rfl ?_
        refine st (OK1.eq (OK1.mv (Has.t rfl)) ((show isI _ = isI ((i + 1 : Nat) : Int) from rfl))) rfl ?_
        refine st (OK1.ixP sl92 ty93 (Has.t rfl) (Has.t rfl) ⟨by omega, by omega⟩ hri) rfl ?_
        refine st (OK1.loadP1 (Has.t rfl) ty93) rfl ?_
        refine st (OK1.mv (Has.t rfl)) rfl ?_
        refine st (OK1.slHM sl93 ty22 (Has.t rfl) (Has.t rfl) ⟨by omega, by omega⟩) rfl ?_
        refine Ops.appendG0 (f := isP) (u := ([] : List Int)) sl93 ty22 zero22 (fun _ _ => ⟨nilK, trivial⟩) (fun _ => inferInstance) by22 (Has.t rfl) (i := 0) rfl (Has.t rfl) (by rw [List.length_take]; simp only [List.length_nil]; omega) rfl fun gr1 => ?_
        refine Ops.memEq (M' := [grM _ _ _, _]) rfl ?_
        refine st (OK1.as (Has.t rfl)) rfl ?_
        refine nl ?_
        refine At.thn (hK19 _ _ ?_); clear hK19
        refine Tri.seq fun K20 hK20 => ?_
        refine Tri.region ?_
        refine st (OK1.mv (Has.t rfl)) rfl ?_
        refine st (OK1.mv (Has.t rfl)) rfl ?_
        refine st (OK1.mv (Has.t rfl)) rfl ?_
        refine st (OK1.ixP sl92 ty93 (Has.t rfl) (Has.t rfl) ⟨by omega, by omega⟩ hri) rfl ?_
        refine st (OK1.loadP1 (Has.t rfl) ty93) rfl ?_
        refine st (OK1.mv (Has.t rfl)) rfl ?_
        refine st (OK1.eq (OK1.addI (Has.t rfl) (Has.cI 1 rfl) (by first | omega | assumption) (by first | omega | assumption)) ((show isI _ = isI ((k + 1 : Nat) : Int) from isI_eq (by omega)))) rfl ?_
        refine st (OK1.slLM sl93 ty22 (Has.t rfl) (Has.t rfl) ⟨by omega, by omega⟩) rfl ?_
        refine Ops.appendG0 (f := isP) (u := ([] : List Int)) sl93 ty22 zero22 (fun _ _ => ⟨nilK, trivial⟩) (fun _ => inferInstance) by22 (Has.t rfl) (i := 0) rfl (Has.t rfl) (by rw [List.length_append, List.length_take, List.length_drop]; simp only [List.length_nil]; omega) rfl fun gr2 => ?_
        refine Ops.memEq (M' := [grM _ _ _, _]) rfl ?_
        refine Ops.cv (Cv.freezeGn (t := 42) (i := 0) (ys := cutR k r) rfl rfl rfl (by unfold cutR; simp)) ?_
        refine Ops.memEq (M' := [_]) rfl ?_
        refine Ops.cv (Cv.wk (.cons (t := 0) (Has.t rfl) (.cons (t := 2) (Has.t rfl) (.cons (t := 4) (Has.t rfl) (.cons (t := 3) (Has.t rfl) (.cons (t := 14) (Has.t rfl) (.cons (t := 15) (Has.t rfl) (.cons (t := 16) (Has.t rfl) (.cons (t := 17) (Has.t rfl) (.cons (t := 6) (Has.t rfl) (.cons (t := 5) (Has.t rfl) (.cons (t := 20) (Has.t rfl) (.cons (t := 21) (Has.t rfl) (.cons (t := 22) (Has.t rfl) (.cons (t := 23) (Has.t rfl) (.cons (t := 27) (Has.t rfl) (.cons (t := 28) (Has.t rfl) (.cons (t := 29) (Has.t rfl) (.cons (t := 30) (Has.t rfl) (.cons (t := 31) (Has.t rfl) (.cons (t := 32) (Has.t rfl) (.cons (t := 35) (Has.t rfl) (.cons (t := 36) (Has.t rfl) (.cons (t := 37) (Has.t rfl) (.cons (t := 38) (Has.t rfl) (.cons (t := 39) (Has.t rfl) (.cons (t := 40) (Has.t rfl) (.cons (t := 41) (Has.t rfl) (.cons (t := 42) (Has.t rfl) .nil))))))))))))))))))))))))))))) ?_
        refine st (OK1.as (Has.t rfl)) rfl ?_
        refine nl ?_
        refine At.thn (hK20 _ _ ?_); clear hK20
        refine Tri.region ?_
        refine st (OK1.mv (Has.t rfl)) rfl ?_
        refine st (OK1.mv (Has.t rfl)) rfl ?_
        refine st (OK1.buildS [nilS] sl92 ty93 zero93 (fun _ _ => ⟨rfl, trivial⟩) rfl rfl (.cons (Has.t rfl) rfl rfl rfl .nil) rfl (S := SlM isRw [cutR k r]) rfl) rfl ?_
        refine Ops.appendG (f := isRw) (u := ([] : List (List Int))) sl92 ty93 zero93 (fun _ _ => ⟨nilM _ _, trivial⟩) (fun _ => inferInstance) by93 (Has.t rfl) (i := 0) rfl (Has.t rfl) (by rw [hgl]; show i + 1 ≤ _; omega) (by simp) rfl fun gr3 => ?_
        refine Ops.memEq (M' := [grM _ _ _]) rfl ?_
        refine st (OK1.as (Has.t rfl)) rfl ?_
        refine nl ?_
        refine At.bln ?_
        refine At.thn (hK17 _ _ ?_); clear hK17
        refine Tri.region ?_
        refine st (OK1.mv (Has.t rfl)) rfl ?_
        refine st (OK1.addI (Has.t rfl) (Has.cI 1 rfl) (by first | omega | assumption) (by first | omega | assumption)) rfl ?_
        refine st (OK1.as (Has.t rfl)) rfl ?_
        refine nl ?_
        refine At.thn ?_
        refine hK14 (⟨(i + 1, gr3), by show i + 1 ≤ n; omega⟩) _ _ ?_ (Cv.mem (.cons (t := 6) (Has.t' rfl ?_) (.cons (t := 5) (Has.t' rfl ?_) (.cons (t := 0) (Has.t rfl) (.cons (t := 2) (Has.t rfl) (.cons (t := 4) (Has.t rfl) (.cons (t := 3) (Has.t rfl) (.cons (t := 14) (Has.t rfl) (.cons (t := 15) (Has.t rfl) (.cons (t := 16) (Has.t rfl) (.cons (t := 17) (Has.t rfl) .nil)))))))))) ?_)
        · show n - (i + 1) < n - i; omega
        · exact isI_eq (by omega)
        · exact isGr_eq (by rw [take_map_succ2 (cutR k) hdr, List.length_append])
        · exact grM_eq (take_map_succ2 (cutR k) hdr).symm
      · have hc3 := BP.f hc3
        have hin : i = n := (by omega)
        refine Tri.exit ?_
        refine At.the ?_
        refine At.the ?_
        refine At.blh ?_
        refine At.thn (hK12 _ _ ?_); clear hK12
        refine Tri.seq fun K21 hK21 => ?_
        refine Tri.cv (Cv.freezeG (t := 5) (i := 0) (ys := ((rows.drop 1).take i).map (cutR k)) rfl rfl rfl) ?_
        refine Tri.memEq (M' := []) rfl ?_
        refine Tri.cv (Cv.wk (.cons (t := 0) (Has.t rfl) (.cons (t := 2) (Has.t rfl) (.cons (t := 4) (Has.t rfl) (.cons (t := 3) (Has.t rfl) (.cons (t := 14) (Has.t rfl) (.cons (t := 15) (Has.t rfl) (.cons (t := 16) (Has.t rfl) (.cons (t := 17) (Has.t rfl) (.cons (t := 6) (Has.t rfl) (.cons (t := 5) (Has.t rfl) (.cons (t := 20) (Has.t rfl) (.cons (t := 21) (Has.t rfl) (.cons (t := 22) (Has.t rfl) (.cons (t := 23) (Has.t rfl) .nil))))))))))))))) ?_
        refine Tri.dr ?_
        refine DrG.st (i := 0) [] rfl rfl rfl (by kernel_rfl) (OKG.o rfl (OK1.mv (Has.t rfl))) ?_
        refine DrG.st (i := 1) [47] rfl rfl rfl (by kernel_rfl) (OKG.o rfl (OK1.ixP sl92 ty93 (Has.t rfl) (Has.cI 0 rfl) ⟨by omega, by omega⟩ h0)) ?_
        refine DrG.st (i := 2) [48] rfl rfl rfl (by kernel_rfl) (OKG.o rfl (OK1.loadP1 (Has.t rfl) ty93)) ?_
        refine DrG.st (i := 3) [] rfl rfl rfl (by kernel_rfl) (OKG.o rfl (OK1.mv (Has.t rfl))) ?_
        refine DrG.st (i := 4) [49, 50] rfl rfl rfl (by kernel_rfl) (OKG.o rfl (OK1.ixP sl93 ty22 (Has.t rfl) (Has.t rfl) ⟨by omega, by omega⟩ hp0)) ?_
        refine DrG.st (i := 5) [51] rfl rfl rfl (by kernel_rfl) (OKG.o rfl (OK1.loadP1 (Has.t rfl) ty22)) ?_
        refine DrG.st (i := 6) [] rfl rfl rfl (by kernel_rfl) (OKG.o rfl (OK1.eq (OK1.mv (Has.t rfl)) ((show _ = SlM isRw (mnr rows k) from SlM_eq (by rw [hin]; unfold mnr; rw [List.take_of_length_le (by rw [List.length_drop]; omega)]))))) ?_
        refine DrG.st (i := 7) [53] rfl rfl rfl (by kernel_rfl) (OKG.o rfl (OK1.eq (OK1.call (ih (mnr rows k) (mnr_len hl) (mnr_row hk1 hr) hs.mnr) (.cons (Has.t rfl) .nil)) ((show _ = isP D from isPl_eq (by rw [hD]; exact pd_congr fun i j hi hj => mnr_at hl hk1 hr hi hj))))) ?_
        refine DrG.fin (n := 8) mixed (by kernel_rfl) (by kernel_rfl) (by kernel_rfl) ?_
        refine Ops.cv (Cv.wk (.cons (t := 0) (Has.t rfl) (.cons (t := 2) (Has.t rfl) (.cons (t := 4) (Has.t rfl) (.cons (t := 3) (Has.t rfl) (.cons (t := 14) (Has.t rfl) (.cons (t := 15) (Has.t rfl) (.cons (t := 16) (Has.t rfl) (.cons (t := 17) (Has.t rfl) (.cons (t := 6) (Has.t rfl) (.cons (t := 5) (Has.t rfl) (.cons (t := 20) (Has.t rfl) (.cons (t := 21) (Has.t rfl) (.cons (t := 22) (Has.t rfl) (.cons (t := 23) (Has.t rfl) (.cons (t := 47) (Has.t rfl) (.cons (t := 48) (Has.t rfl) (.cons (t := 49) (Has.t rfl) (.cons (t := 50) (Has.t rfl) (.cons (t := 51) (Has.t rfl) (.cons (t := 52) (Has.t rfl) (.cons (t := 53) (Has.t rfl) (.cons (t := 54) (Has.t rfl) .nil))))))))))))))))))))))) ?_
        refine st (OK1.eq (OK1.call (ref10_Mul (K := K) (L := pdB K n) (by rw [vals_nz]; exact hp0b) (by rw [vals_nz]; exact hDb) (by omega) (by omega) (by rw [List.length_map]; omega) (by rw [List.length_map]; omega)) (.cons (Has.t rfl) (.cons (Has.t rfl) .nil))) ((show _ = isP (rmul p0 D) from isPl_eq (by rw [vals_nz, vals_nz])))) rfl ?_
        refine st (OK1.as (Has.t rfl)) rfl ?_
        refine nl ?_
        refine At.thn (hK21 _ _ ?_); clear hK21
        refine Tri.seq fun K22 hK22 => ?_
        refine Tri.seq fun K23 hK23 => ?_
        refine Tri.region ?_
        refine st (OK1.mv (Has.t rfl)) rfl ?_
        refine st (OK1.remI (Has.t rfl) (Has.cI 2 rfl) (by first | omega | assumption) (by first | omega | assumption) (by first | omega | assumption)) rfl ?_
        refine st (OK1.eqI (Has.t rfl) (Has.cI 1 rfl)) rfl ?_
        refine nl ?_
        refine At.thn (hK23 _ _ ?_); clear hK23
        refine Tri.cond (Has.t rfl) (fun hc4 => ?_) (fun hc4 => ?_)
        · have hc4 := BP.t hc4
          have hodd : k % 2 = 1 := (by omega)
          refine Tri.region ?_
          refine st (OK1.mv (Has.t rfl)) rfl ?_
          refine st (OK1.call (zint_Of) (.cons (Has.cI (-1) rfl) .nil)) rfl ?_
          refine st (OK1.buildS [isB false, SlM isU []] sl22 ty44 zero44 (fun _ _ => ⟨rfl, nilM _ _, trivial⟩) rfl rfl (.cons (Has.t rfl) rfl rfl rfl .nil) rfl (S := SlK 2 zc (([-1] : List Int).map nz)) rfl) rfl ?_
          refine st (OK1.eq (OK1.call (ref10_Mul (K := K + pdB K n + p0.length) (L := 1) (by rw [vals_nz]; exact hMb) (by rw [vals_nz]; exact bd64 (by decide)) (by omega) (by decide) (by rw [List.length_map]; omega) (by decide)) (.cons (Has.t rfl) (.cons (Has.t rfl) .nil))) ((show _ = isP (rmul (rmul p0 D) [-1]) from isPl_eq (by rw [vals_nz, vals_nz])))) rfl ?_
          refine st (OK1.as (Has.t rfl)) rfl ?_
          refine nl ?_
          refine At.thn (hK22 _ _ ?_); clear hK22
          refine Tri.region ?_
          refine st (OK1.mv (Has.t rfl)) rfl ?_
          refine st (OK1.mv (Has.t rfl)) rfl ?_
          refine st (OK1.eq (OK1.call (ref10_Add (K := 10000) (by rw [vals_nz]; exact hsk.mono (by omega)) (by rw [vals_nz]; first | exact hMb.mono (by omega) | exact (hMb.rmul (show Bd [-1] 1 from bd64 (by decide))).mono (by omega)) (by decide) (by rw [List.length_map]; omega) (by rw [List.length_map]; first | omega | (rw [rmul_len]; simp only [List.length_cons, List.length_nil]; omega))) (.cons (Has.t rfl) (.cons (Has.t rfl) .nil))) ((show _ = isP (radd (pdS n (pmF rows) k) _) from isPl_eq (by rw [vals_nz, vals_nz])))) rfl ?_
          refine st (OK1.as (Has.t rfl)) rfl ?_
          refine nl ?_
          refine At.bln ?_
          refine At.thn (hK10 _ _ ?_); clear hK10
          refine Tri.region ?_
          refine st (OK1.mv (Has.t rfl)) rfl ?_
          refine st (OK1.addI (Has.t rfl) (Has.cI 1 rfl) (by first | omega | assumption) (by first | omega | assumption)) rfl ?_
          refine st (OK1.as (Has.t rfl)) rfl ?_
          refine nl ?_
          refine At.thn ?_
          refine hK7 (⟨k + 1, by omega⟩) _ _ ?_ (Cv.mem (.cons (t := 4) (Has.t' rfl ?_) (.cons (t := 3) (Has.t' rfl ?_) (.cons (t := 0) (Has.t rfl) (.cons (t := 2) (Has.t rfl) .nil)))) ?_)
          · show n + 1 - (k + 1) < n + 1 - k; omega
          · exact isI_eq (by omega)
          · exact isPl_eq (by rw [hsu]; unfold pdx; first | rw [if_pos hodd] | rw [if_neg hodd])
          · rfl
        · have hc4 := BP.f hc4
          have hodd : ¬ k % 2 = 1 := (by omega)
          refine Tri.skip ?_
          refine At.thn (hK22 _ _ ?_); clear hK22
          refine Tri.region ?_
          refine st (OK1.mv (Has.t rfl)) rfl ?_
          refine st (OK1.mv (Has.t rfl)) rfl ?_
          refine st (OK1.eq (OK1.call (ref10_Add (K := 10000) (by rw [vals_nz]; exact hsk.mono (by omega)) (by rw [vals_nz]; first | exact hMb.mono (by omega) | exact (hMb.rmul (show Bd [-1] 1 from bd64 (by decide))).mono (by omega)) (by decide) (by rw [List.length_map]; omega) (by rw [List.length_map]; first | omega | (rw [rmul_len]; simp only [List.length_cons, List.length_nil]; omega))) (.cons (Has.t rfl) (.cons (Has.t rfl) .nil))) ((show _ = isP (radd (pdS n (pmF rows) k) _) from isPl_eq (by rw [vals_nz, vals_nz])))) rfl ?_
          refine st (OK1.as (Has.t rfl)) rfl ?_
          refine nl ?_
          refine At.bln ?_
          refine At.thn (hK10 _ _ ?_); clear hK10
          refine Tri.region ?_
          refine st (OK1.mv (Has.t rfl)) rfl ?_
          refine st (OK1.addI (Has.t rfl) (Has.cI 1 rfl) (by first | omega | assumption) (by first | omega | assumption)) rfl ?_
          refine st (OK1.as (Has.t rfl)) rfl ?_
          refine nl ?_
          refine At.thn ?_
          refine hK7 (⟨k + 1, by omega⟩) _ _ ?_ (Cv.mem (.cons (t := 4) (Has.t' rfl ?_) (.cons (t := 3) (Has.t' rfl ?_) (.cons (t := 0) (Has.t rfl) (.cons (t := 2) (Has.t rfl) .nil)))) ?_)
          · show n + 1 - (k + 1) < n + 1 - k; omega
          · exact isI_eq (by omega)
          · exact isPl_eq (by rw [hsu]; unfold pdx; first | rw [if_pos hodd] | rw [if_neg hodd])
          · rfl
    · have hc2 := BP.f hc2
      skip
      refine Tri.exit ?_
      refine At.the ?_
      refine At.the ?_
      refine At.blh ?_
      refine At.thn (hK5 _ _ ?_); clear hK5
      refine Tri.cv (Cv.wk (.cons (t := 2) (Has.t rfl) (.cons (t := 3) (Has.t rfl) .nil))) ?_
      refine Tri.seq fun K24 hK24 => ?_
      refine Tri.region ?_
      refine st (OK1.mv (Has.t rfl)) rfl ?_
      refine st (OK1.as (Has.t rfl)) rfl ?_
      refine nl ?_
      refine At.thn (hK24 _ _ ?_); clear hK24
      refine Tri.ret ?_
      refine rt1 (.inl rfl) Try.results72 rfl (.tmp (Has.t' rfl ?_) .nil)
      all_goals (exact isPl_eq (by rw [pd_succ, show k = n + 1 by omega]))
theorem ref26_Det {K : Nat} (hK : K ≤ 100) : ∀ (n : Nat), n ≤ 9 → ∀ rows : List (List (List Int)), rows.length = n → (∀ r ∈ rows, r.length = n) → smallP K rows → Ctr Try.prog 72 [SlM isRw rows] (isP (pd n (pmF rows)))
  | 0, _, rows, hl, _, _ => by
    obtain rfl : rows = [] := List.eq_nil_of_length_eq_zero hl
    exact ref26_Det0
  | n + 1, hn, rows, hl, hr, hs => ref26_DetS hl hr hs hK (by omega) (ref26_Det hK n (by omega))
end Go.Proofs.Ytgkbekcpmbjbdaa
/- Contracts: the document's characteristic polynomials; traces. -/
namespace Go.Proofs.Ytgkbekcpmbjbdaa
open Go.En Go.RowKit
set_option linter.unusedVariables false
set_option maxRecDepth 10000
open Go.Nt
open Go.Pz
open Go.Mz
open Go.Hn
open Go.Hp
open Go.Dt
open Go.Ch
theorem rng_len {α : Type} (f : Nat → α) (n : Nat) : ((List.range n).map f).length = n := by rw [List.length_map, List.length_range]
theorem rng_snoc {α : Type} (f : Nat → α) (n : Nat) : (List.range n).map f ++ [f n] = (List.range (n + 1)).map f := by rw [List.range_succ, List.map_append]; rfl
theorem rng_at {α : Type} (f : Nat → α) {n i : Nat} (d : α) (h : i < n) : ((List.range n).map f).getD i d = f i := by rw [List.getD, List.getElem?_map, List.getElem?_range h]; rfl
theorem pmF_tab {n i j : Nat} (f : Nat → Nat → List Int) (hi : i < n) (hj : j < n) : pmF ((List.range n).map fun i => (List.range n).map (f i)) i j = f i j := by
  unfold pmF
  rw [rng_at (fun i => (List.range n).map (f i)) [] hi, rng_at (f i) [] hj]
theorem xmP_small {n K : Nat} {L : List Int} (h : Bd L K) (hK : 1 ≤ K) : smallP K ((List.range n).map fun i => (List.range n).map (xmP (mf n L) i)) := fun r hr p hp => by
  obtain ⟨i, _, rfl⟩ := List.mem_map.1 hr
  obtain ⟨j, _, rfl⟩ := List.mem_map.1 hp
  have h1 : (List.length (words (-(mf n L i j)).natAbs)) ≤ K := by rw [Int.natAbs_neg]; exact h _
  have h2 : (List.length (words (1 : Int).natAbs)) ≤ K := Nat.le_trans (nw_small' (by decide)) hK
  have h0 : (List.length (words (0 : Int).natAbs)) ≤ K := by rw [Int.natAbs_zero, words_zero]; exact Nat.zero_le _
  unfold xmP
  split
  · exact ⟨Nat.le_refl _, fun m => by match m with | 0 => exact h1 | 1 => exact h2 | m + 2 => exact h0⟩
  · exact ⟨show 1 ≤ 2 by decide, fun m => by match m with | 0 => exact h1 | m + 1 => exact h0⟩
set_option maxHeartbeats 4000000 in
theorem ref26_Char {n K : Nat} {xs : List (Bool × List Nat)} (hx : Bd (vals xs) K) (hK1 : 1 ≤ K) (hK : K ≤ 100) (hn : n ≤ 9) (hl : xs.length = n * n) : Ctr Try.prog 23 [isM (n : Int) (n : Int) xs] (isP (pd n (xmP (mf n (vals xs))))) := by
  refine Ctr.intro Try.func23 rfl (by kernel_rfl) Try.ntmps23 rfl fun w0 F0 => ?_
  refine Tri.cv (Cv.wk (.cons (t := 0) (Has.t rfl) .nil)) ?_
  have hRC := side_le (show n ≤ 64 by omega) (show n ≤ 64 by omega)
  refine Tri.seq fun K1 hK1 => ?_
  refine Tri.region ?_
  refine Ops.box (Has.t rfl) rfl fun b1 => ?_
  refine st (OK1.as (Has.cWK (k := 2) (fk := zc))) rfl ?_
  refine nl ?_
  refine At.thn (hK1 _ _ ?_); clear hK1
  refine Tri.seq fun K2 hK2 => ?_
  refine Tri.region ?_
  refine Ops.cv (Cv.grow0 (α := List (List Int)) isRw) ?_
  refine st (OK1.as (Has.cGr (α := List (List Int)))) rfl ?_
  refine nl ?_
  refine At.thn (hK2 _ _ ?_); clear hK2
  refine Tri.seq fun K3 hK3 => ?_
  refine Tri.seq fun K4 hK4 => ?_
  refine Tri.region ?_
  refine st (OK1.as (Has.cI 0 rfl)) rfl ?_
  refine nl ?_
  refine At.thn (hK4 _ _ ?_); clear hK4
  refine Tri.block ?_
  refine Tri.loopF [1, 2] (fun (z : { z : Nat × Gr (List (List Int)) // z.1 ≤ n }) => match z with | ⟨(i, g), hI⟩ => [(4, isI (i : Int)), (3, isGr g ((List.range i).map fun i => (List.range n).map (xmP (mf n (vals xs)) i)).length)]) (fun M => fun (z : { z : Nat × Gr (List (List Int)) // z.1 ≤ n }) => match z with | ⟨(i, g), hI⟩ => [grM isRw g ((List.range i).map fun i => (List.range n).map (xmP (mf n (vals xs)) i)), (some b1, cellM [isI (n : Int), isI (n : Int), SlK 2 zc xs])]) (fun (z : { z : Nat × Gr (List (List Int)) // z.1 ≤ n }) => match z with | ⟨(i, g), hI⟩ => n - i) (⟨(0, Gr.nil), Nat.zero_le _⟩) (Cv.mem (.cons (t := 4) (Has.t' rfl ?_) (.cons (t := 3) (Has.t' rfl ?_) (.cons (t := 1) (Has.t rfl) (.cons (t := 2) (Has.t rfl) .nil)))) ?_) ?_
  · rfl
  · rfl
  · rfl
  rintro ⟨⟨i, g⟩, hI⟩ K5 hK5
  refine Tri.cv (Cv.wk (.cons (t := 4) (Has.t rfl) (.cons (t := 3) (Has.t rfl) (.cons (t := 1) (Has.t rfl) (.cons (t := 2) (Has.t rfl) .nil))))) ?_
  refine Tri.memEq (M' := [grM isRw g ((List.range i).map fun i => (List.range n).map (xmP (mf n (vals xs)) i)), (some b1, cellM [isI (n : Int), isI (n : Int), SlK 2 zc xs])]) rfl ?_
  simp only [] at hI
  refine Tri.seq fun K6 hK6 => ?_
  refine Tri.seq fun K7 hK7 => ?_
  refine Tri.region ?_
  refine st (OK1.mv (Has.t rfl)) rfl ?_
  refine st (OK1.fieldAddr (Has.t rfl) fld24_0 ty3) rfl ?_
  refine st (OK1.load1 (Has.t rfl) (i := 1) rfl ty3 rfl) rfl ?_
  refine st (OK1.ltI (Has.t rfl) (Has.t rfl)) rfl ?_
  refine nl ?_
  refine At.thn (hK7 _ _ ?_); clear hK7
  refine Tri.cond (Has.t rfl) (fun hc1 => ?_) (fun hc1 => ?_)
  · have hc1 := BP.t hc1
    skip
    refine Tri.skip ?_
    refine At.thn (hK6 _ _ ?_); clear hK6
    refine Tri.seq fun K8 hK8 => ?_
    refine Tri.block ?_
    refine Tri.seq fun K9 hK9 => ?_
    refine Tri.region ?_
    refine Ops.cv (Cv.grow0 (α := List Int) isP) ?_
    refine st (OK1.as (Has.cGr (α := List Int))) rfl ?_
    refine nl ?_
    refine At.thn (hK9 _ _ ?_); clear hK9
    refine Tri.seq fun K10 hK10 => ?_
    refine Tri.seq fun K11 hK11 => ?_
    refine Tri.region ?_
    refine st (OK1.as (Has.cI 0 rfl)) rfl ?_
    refine nl ?_
    refine At.thn (hK11 _ _ ?_); clear hK11
    refine Tri.block ?_
    refine Tri.loopF [1, 2, 4, 3, 8, 9, 10, 11] (fun (z : { z : Nat × Gr (List Int) // z.1 ≤ n }) => match z with | ⟨(k, g2), hK2⟩ => [(6, isI (k : Int)), (5, isGr g2 ((List.range k).map (xmP (mf n (vals xs)) i)).length)]) (fun M => fun (z : { z : Nat × Gr (List Int) // z.1 ≤ n }) => match z with | ⟨(k, g2), hK2⟩ => [grM isP g2 ((List.range k).map (xmP (mf n (vals xs)) i)), grM isRw g ((List.range i).map fun i => (List.range n).map (xmP (mf n (vals xs)) i)), (some b1, cellM [isI (n : Int), isI (n : Int), SlK 2 zc xs])]) (fun (z : { z : Nat × Gr (List Int) // z.1 ≤ n }) => match z with | ⟨(k, g2), hK2⟩ => n - k) (⟨(0, Gr.nil), Nat.zero_le _⟩) (Cv.mem (.cons (t := 6) (Has.t' rfl ?_) (.cons (t := 5) (Has.t' rfl ?_) (.cons (t := 1) (Has.t rfl) (.cons (t := 2) (Has.t rfl) (.cons (t := 4) (Has.t rfl) (.cons (t := 3) (Has.t rfl) (.cons (t := 8) (Has.t rfl) (.cons (t := 9) (Has.t rfl) (.cons (t := 10) (Has.t rfl) (.cons (t := 11) (Has.t rfl) .nil)))))))))) ?_) ?_
    · rfl
    · rfl
    · rfl
    rintro ⟨⟨k, g2⟩, hK2⟩ K12 hK12
    refine Tri.cv (Cv.wk (.cons (t := 6) (Has.t rfl) (.cons (t := 5) (Has.t rfl) (.cons (t := 1) (Has.t rfl) (.cons (t := 2) (Has.t rfl) (.cons (t := 4) (Has.t rfl) (.cons (t := 3) (Has.t rfl) (.cons (t := 8) (Has.t rfl) (.cons (t := 9) (Has.t rfl) (.cons (t := 10) (Has.t rfl) (.cons (t := 11) (Has.t rfl) .nil))))))))))) ?_
    refine Tri.memEq (M' := [grM isP g2 ((List.range k).map (xmP (mf n (vals xs)) i)), grM isRw g ((List.range i).map fun i => (List.range n).map (xmP (mf n (vals xs)) i)), (some b1, cellM [isI (n : Int), isI (n : Int), SlK 2 zc xs])]) rfl ?_
    simp only [] at hK2
    refine Tri.seq fun K13 hK13 => ?_
    refine Tri.seq fun K14 hK14 => ?_
    refine Tri.region ?_
    refine st (OK1.mv (Has.t rfl)) rfl ?_
    refine st (OK1.fieldAddr (Has.t rfl) fld24_0 ty3) rfl ?_
    refine st (OK1.load1 (Has.t rfl) (i := 2) rfl ty3 rfl) rfl ?_
    refine st (OK1.ltI (Has.t rfl) (Has.t rfl)) rfl ?_
    refine nl ?_
    refine At.thn (hK14 _ _ ?_); clear hK14
    refine Tri.cond (Has.t rfl) (fun hc2 => ?_) (fun hc2 => ?_)
    · have hc2 := BP.t hc2
      have hpl := place_lt (show i < n by omega) (show k < n by omega)
      have hxr := hx.raw (i * n + k)
      refine Tri.skip ?_
      refine At.thn (hK13 _ _ ?_); clear hK13
      refine Tri.seq fun K15 hK15 => ?_
      refine Tri.block ?_
      refine Tri.seq fun K16 hK16 => ?_
      refine Tri.region ?_
      refine st (OK1.load (Has.t rfl) (i := 2) rfl ty24 rfl (Ss' := [_, _, _]) rfl) rfl ?_
      refine st (OK1.mv (Has.t rfl)) rfl ?_
      refine st (OK1.mv (Has.t rfl)) rfl ?_
      refine st (OK1.call (ref11_At (i := i) (k := k) (by omega) (by omega)) (.cons (Has.t rfl) (.cons (Has.t rfl) (.cons (Has.t rfl) .nil)))) rfl ?_
      refine st (OK1.eq (OK1.call (zint_Neg (by omega)) (.cons (Has.t rfl) .nil)) ((show _ = Flat (zc (nz (-((mf n (vals xs)) i k)))) from isZ_eq (by show _ = -(cf (vals xs) (i * n + k)); rw [cf_vals])))) rfl ?_
      refine Ops.buildGK (fk := zc) (xs := [nz (-((mf n (vals xs)) i k))]) [isB false, SlM isU []] sl22 ty44 zero44 (fun _ _ => ⟨rfl, nilM _ _, trivial⟩) rfl rfl (.cons (Has.t rfl) rfl rfl rfl .nil) rfl rfl rfl rfl fun b2 => ?_
      refine Ops.memEq (M' := [grMK zc _ _, _, _, _]) rfl ?_
      refine st (OK1.as (Has.t rfl)) rfl ?_
      refine nl ?_
      refine At.thn (hK16 _ _ ?_); clear hK16
      refine Tri.seq fun K17 hK17 => ?_
      refine Tri.seq fun K18 hK18 => ?_
      refine Tri.region ?_
      refine st (OK1.mv (Has.t rfl)) rfl ?_
      refine st (OK1.mv (Has.t rfl)) rfl ?_
      refine st (OK1.eqI (Has.t rfl) (Has.t rfl)) rfl ?_
      refine nl ?_
      refine At.thn (hK18 _ _ ?_); clear hK18
      refine Tri.cond (Has.t rfl) (fun hc3 => ?_) (fun hc3 => ?_)
      · have hc3 := BP.t hc3
        have hik : i = k := (by omega)
        refine Tri.region ?_
        refine st (OK1.mv (Has.t rfl)) rfl ?_
        refine st (OK1.eq (OK1.call (zint_Of) (.cons (Has.cI 1 rfl) .nil)) ((show isZ 1 = Flat (zc (nz 1)) from rfl))) rfl ?_
        refine st (OK1.buildS [isB false, SlM isU []] sl22 ty44 zero44 (fun _ _ => ⟨rfl, nilM _ _, trivial⟩) rfl rfl (.cons (Has.t rfl) rfl rfl rfl .nil) rfl (S := SlK 2 zc [nz 1]) rfl) rfl ?_
        refine Ops.appendGK (fk := zc) (u := (false, [])) zc_len (by decide) (fun _ => inferInstance) sl22 ty44 zero44 (fun _ _ => ⟨rfl, nilM _ _, trivial⟩) by44 (Has.t rfl) (i := 0) rfl (Has.t rfl) (by simp only [List.length_cons, List.length_nil]; omega) (by simp) rfl fun gr0 => ?_
        refine Ops.memEq (M' := [grMK _ _ _, _, _, _]) rfl ?_
        refine Ops.cv (Cv.freezeGKn (t := 32) (i := 0) (ys := [nz (-((mf n (vals xs)) i k)), nz 1]) zc_len rfl rfl rfl (by simp)) ?_
        refine Ops.memEq (M' := [_, _, _]) rfl ?_
        refine Ops.cv (Cv.wk (.cons (t := 1) (Has.t rfl) (.cons (t := 2) (Has.t rfl) (.cons (t := 4) (Has.t rfl) (.cons (t := 3) (Has.t rfl) (.cons (t := 8) (Has.t rfl) (.cons (t := 9) (Has.t rfl) (.cons (t := 10) (Has.t rfl) (.cons (t := 11) (Has.t rfl) (.cons (t := 6) (Has.t rfl) (.cons (t := 5) (Has.t rfl) (.cons (t := 14) (Has.t rfl) (.cons (t := 15) (Has.t rfl) (.cons (t := 16) (Has.t rfl) (.cons (t := 17) (Has.t rfl) (.cons (t := 20) (Has.t rfl) (.cons (t := 21) (Has.t rfl) (.cons (t := 22) (Has.t rfl) (.cons (t := 23) (Has.t rfl) (.cons (t := 24) (Has.t rfl) (.cons (t := 26) (Has.t rfl) (.cons (t := 27) (Has.t rfl) (.cons (t := 28) (Has.t rfl) (.cons (t := 30) (Has.t rfl) (.cons (t := 31) (Has.t rfl) (.cons (t := 32) (Has.t rfl) .nil)))))))))))))))))))))))))) ?_
        refine st (OK1.as (Has.t rfl)) rfl ?_
        refine nl ?_
        refine At.thn (hK17 _ _ ?_); clear hK17
        refine Tri.region ?_
        refine st (OK1.mv (Has.t rfl)) rfl ?_
        refine st (OK1.eq (OK1.mv (Has.t rfl)) ((show _ = isP (xmP (mf n (vals xs)) i k) from SlK_eq (by unfold xmP; first | (rw [if_pos hik]; rfl) | (rw [if_neg hik]; rfl))))) rfl ?_
        refine st (OK1.buildS [nilS] sl93 ty22 zero22 (fun _ _ => ⟨rfl, trivial⟩) rfl rfl (.cons (Has.t rfl) rfl rfl rfl .nil) rfl (S := SlM isP [xmP (mf n (vals xs)) i k]) rfl) rfl ?_
        refine Ops.appendG (f := isP) (u := ([] : List Int)) sl93 ty22 zero22 (fun _ _ => ⟨nilK, trivial⟩) (fun _ => inferInstance) by22 (Has.t rfl) (i := 0) rfl (Has.t rfl) (by rw [rng_len]; show k + 1 ≤ _; omega) (by simp) rfl fun gr1 => ?_
        refine Ops.memEq (M' := [grM _ _ _, _, _]) rfl ?_
        refine st (OK1.as (Has.t rfl)) rfl ?_
        refine nl ?_
        refine At.bln ?_
        refine At.thn (hK15 _ _ ?_); clear hK15
        refine Tri.region ?_
        refine st (OK1.mv (Has.t rfl)) rfl ?_
        refine st (OK1.addI (Has.t rfl) (Has.cI 1 rfl) (by first | omega | assumption) (by first | omega | assumption)) rfl ?_
        refine st (OK1.as (Has.t rfl)) rfl ?_
        refine nl ?_
        refine At.thn ?_
        refine hK12 (⟨(k + 1, gr1), by show k + 1 ≤ n; omega⟩) _ _ ?_ (Cv.mem (.cons (t := 6) (Has.t' rfl ?_) (.cons (t := 5) (Has.t' rfl ?_) (.cons (t := 1) (Has.t rfl) (.cons (t := 2) (Has.t rfl) (.cons (t := 4) (Has.t rfl) (.cons (t := 3) (Has.t rfl) (.cons (t := 8) (Has.t rfl) (.cons (t := 9) (Has.t rfl) (.cons (t := 10) (Has.t rfl) (.cons (t := 11) (Has.t rfl) .nil)))))))))) ?_)
        · show n - (k + 1) < n - k; omega
        · exact isI_eq (by omega)
        · exact isGr_eq (by rw [← rng_snoc, List.length_append])
        · exact grM_eq (rng_snoc _ _)
      · have hc3 := BP.f hc3
        have hik : ¬ i = k := (by omega)
        refine Tri.skip ?_
        refine At.thn (hK17 _ _ ?_); clear hK17
        refine Tri.cv (Cv.freezeGK (t := 7) (i := 0) (ys := [nz (-((mf n (vals xs)) i k))]) zc_len rfl rfl rfl) ?_
        refine Tri.memEq (M' := [_, _, _]) rfl ?_
        refine Tri.cv (Cv.wk (.cons (t := 1) (Has.t rfl) (.cons (t := 2) (Has.t rfl) (.cons (t := 4) (Has.t rfl) (.cons (t := 3) (Has.t rfl) (.cons (t := 8) (Has.t rfl) (.cons (t := 9) (Has.t rfl) (.cons (t := 10) (Has.t rfl) (.cons (t := 11) (Has.t rfl) (.cons (t := 6) (Has.t rfl) (.cons (t := 5) (Has.t rfl) (.cons (t := 14) (Has.t rfl) (.cons (t := 15) (Has.t rfl) (.cons (t := 16) (Has.t rfl) (.cons (t := 17) (Has.t rfl) (.cons (t := 20) (Has.t rfl) (.cons (t := 21) (Has.t rfl) (.cons (t := 22) (Has.t rfl) (.cons (t := 23) (Has.t rfl) (.cons (t := 24) (Has.t rfl) (.cons (t := 7) (Has.t rfl) (.cons (t := 26) (Has.t rfl) (.cons (t := 27) (Has.t rfl) (.cons (t := 28) (Has.t rfl) .nil)))))))))))))))))))))))) ?_
        refine Tri.region ?_
        refine st (OK1.mv (Has.t rfl)) rfl ?_
        refine st (OK1.eq (OK1.mv (Has.t rfl)) ((show _ = isP (xmP (mf n (vals xs)) i k) from SlK_eq (by unfold xmP; first | (rw [if_pos hik]; rfl) | (rw [if_neg hik]; rfl))))) rfl ?_
        refine st (OK1.buildS [nilS] sl93 ty22 zero22 (fun _ _ => ⟨rfl, trivial⟩) rfl rfl (.cons (Has.t rfl) rfl rfl rfl .nil) rfl (S := SlM isP [xmP (mf n (vals xs)) i k]) rfl) rfl ?_
        refine Ops.appendG (f := isP) (u := ([] : List Int)) sl93 ty22 zero22 (fun _ _ => ⟨nilK, trivial⟩) (fun _ => inferInstance) by22 (Has.t rfl) (i := 0) rfl (Has.t rfl) (by rw [rng_len]; show k + 1 ≤ _; omega) (by simp) rfl fun gr1 => ?_
        refine Ops.memEq (M' := [grM _ _ _, _, _]) rfl ?_
        refine st (OK1.as (Has.t rfl)) rfl ?_
        refine nl ?_
        refine At.bln ?_
        refine At.thn (hK15 _ _ ?_); clear hK15
        refine Tri.region ?_
        refine st (OK1.mv (Has.t rfl)) rfl ?_
        refine st (OK1.addI (Has.t rfl) (Has.cI 1 rfl) (by first | omega | assumption) (by first | omega | assumption)) rfl ?_
        refine st (OK1.as (Has.t rfl)) rfl ?_
        refine nl ?_
        refine At.thn ?_
        refine hK12 (⟨(k + 1, gr1), by show k + 1 ≤ n; omega⟩) _ _ ?_ (Cv.mem (.cons (t := 6) (Has.t' rfl ?_) (.cons (t := 5) (Has.t' rfl ?_) (.cons (t := 1) (Has.t rfl) (.cons (t := 2) (Has.t rfl) (.cons (t := 4) (Has.t rfl) (.cons (t := 3) (Has.t rfl) (.cons (t := 8) (Has.t rfl) (.cons (t := 9) (Has.t rfl) (.cons (t := 10) (Has.t rfl) (.cons (t := 11) (Has.t rfl) .nil)))))))))) ?_)
        · show n - (k + 1) < n - k; omega
        · exact isI_eq (by omega)
        · exact isGr_eq (by rw [← rng_snoc, List.length_append])
        · exact grM_eq (rng_snoc _ _)
    · have hc2 := BP.f hc2
      have hkn : k = n := (by omega)
      refine Tri.exit ?_
      refine At.the ?_
      refine At.the ?_
      refine At.blh ?_
      refine At.thn (hK10 _ _ ?_); clear hK10
      refine Tri.cv (Cv.freezeG (t := 5) (i := 0) (ys := (List.range k).map (xmP (mf n (vals xs)) i)) rfl rfl rfl) ?_
      refine Tri.memEq (M' := [_, _]) rfl ?_
      refine Tri.cv (Cv.wk (.cons (t := 1) (Has.t rfl) (.cons (t := 2) (Has.t rfl) (.cons (t := 4) (Has.t rfl) (.cons (t := 3) (Has.t rfl) (.cons (t := 8) (Has.t rfl) (.cons (t := 9) (Has.t rfl) (.cons (t := 10) (Has.t rfl) (.cons (t := 11) (Has.t rfl) (.cons (t := 6) (Has.t rfl) (.cons (t := 5) (Has.t rfl) (.cons (t := 14) (Has.t rfl) (.cons (t := 15) (Has.t rfl) (.cons (t := 16) (Has.t rfl) (.cons (t := 17) (Has.t rfl) .nil))))))))))))))) ?_
      refine Tri.region ?_
      refine st (OK1.mv (Has.t rfl)) rfl ?_
      refine st (OK1.eq (OK1.mv (Has.t rfl)) ((show _ = isRw ((List.range n).map (xmP (mf n (vals xs)) i)) from SlM_eq (by rw [hkn])))) rfl ?_
      refine st (OK1.buildS [nilS] sl92 ty93 zero93 (fun _ _ => ⟨rfl, trivial⟩) rfl rfl (.cons (Has.t rfl) rfl rfl rfl .nil) rfl (S := SlM isRw [(List.range n).map (xmP (mf n (vals xs)) i)]) rfl) rfl ?_
      refine Ops.appendG (f := isRw) (u := ([] : List (List Int))) sl92 ty93 zero93 (fun _ _ => ⟨nilM _ _, trivial⟩) (fun _ => inferInstance) by93 (Has.t rfl) (i := 0) rfl (Has.t rfl) (by rw [rng_len]; show i + 1 ≤ _; omega) (by simp) rfl fun gr2 => ?_
      refine Ops.memEq (M' := [grM _ _ _, _]) rfl ?_
      refine st (OK1.as (Has.t rfl)) rfl ?_
      refine nl ?_
      refine At.bln ?_
      refine At.thn (hK8 _ _ ?_); clear hK8
      refine Tri.region ?_
      refine st (OK1.mv (Has.t rfl)) rfl ?_
      refine st (OK1.addI (Has.t rfl) (Has.cI 1 rfl) (by first | omega | assumption) (by first | omega | assumption)) rfl ?_
      refine st (OK1.as (Has.t rfl)) rfl ?_
      refine nl ?_
      refine At.thn ?_
      refine hK5 (⟨(i + 1, gr2), by show i + 1 ≤ n; omega⟩) _ _ ?_ (Cv.mem (.cons (t := 4) (Has.t' rfl ?_) (.cons (t := 3) (Has.t' rfl ?_) (.cons (t := 1) (Has.t rfl) (.cons (t := 2) (Has.t rfl) .nil)))) ?_)
      · show n - (i + 1) < n - i; omega
      · exact isI_eq (by omega)
      · exact isGr_eq (by rw [← rng_snoc, List.length_append])
      · exact grM_eq (rng_snoc _ _)
  · have hc1 := BP.f hc1
    have hin : i = n := (by omega)
    refine Tri.exit ?_
    refine At.the ?_
    refine At.the ?_
    refine At.blh ?_
    refine At.thn (hK3 _ _ ?_); clear hK3
    refine Tri.cv (Cv.wk (.cons (t := 2) (Has.t rfl) (.cons (t := 3) (Has.t rfl) .nil))) ?_
    refine Tri.seq fun K19 hK19 => ?_
    refine Tri.cv (Cv.freezeG (t := 3) (i := 0) (ys := (List.range i).map fun i => (List.range n).map (xmP (mf n (vals xs)) i)) rfl rfl rfl) ?_
    refine Tri.memEq (M' := [_]) rfl ?_
    refine Tri.cv (Cv.wk (.cons (t := 2) (Has.t rfl) (.cons (t := 3) (Has.t rfl) .nil))) ?_
    refine Tri.region ?_
    refine st (OK1.eq (OK1.mv (Has.t rfl)) ((show _ = SlM isRw ((List.range n).map fun i => (List.range n).map (xmP (mf n (vals xs)) i)) from SlM_eq (by rw [hin])))) rfl ?_
    refine st (OK1.eq (OK1.call (ref26_Det (K := K) hK n hn _ (rng_len _ n) (fun r hr => by obtain ⟨i, _, rfl⟩ := List.mem_map.1 hr; exact rng_len _ n) (xmP_small hx hK1)) (.cons (Has.t rfl) .nil)) ((show _ = isP (pd n (xmP (mf n (vals xs)))) from isPl_eq (pd_congr fun i j hi hj => pmF_tab _ hi hj)))) rfl ?_
    refine st (OK1.as (Has.t rfl)) rfl ?_
    refine nl ?_
    refine At.thn (hK19 _ _ ?_); clear hK19
    refine Tri.ret ?_
    refine rt1 (.inl rfl) Try.results23 rfl (.tmp (Has.t' rfl ?_) .nil)
    all_goals (rfl)
set_option maxHeartbeats 4000000 in
theorem zchar_Trace {n K : Nat} {xs : List (Bool × List Nat)} (hx : Bd (vals xs) K) (hK : K ≤ 400000000) (hn : n ≤ 64) (hl : xs.length = n * n) : Ctr Try.prog 21 [isM (n : Int) (n : Int) xs] (isTup [isZ (trcL n (vals xs) n), isI 0]) := by
  refine Ctr.intro Try.func21 rfl (by kernel_rfl) Try.ntmps21 rfl fun w0 F0 => ?_
  refine Tri.cv (Cv.wk (.cons (t := 0) (Has.t rfl) .nil)) ?_
  have hfo := formB_true hn hn hl
  have hfs : (formB (n : Int) (n : Int) xs.length && decide ((n : Int) = (n : Int))) = true := by rw [hfo]; simp
  refine Tri.seq fun K1 hK1 => ?_
  refine Tri.region ?_
  refine Ops.box (Has.t rfl) rfl fun b1 => ?_
  refine Ops.alloc [isB false, SlM isU []] zero44 (fun _ _ => ⟨rfl, nilM _ _, trivial⟩) rfl fun b2 => ?_
  refine st (OK1.as (Has.cI 0 rfl)) rfl ?_
  refine nl ?_
  refine At.thn (hK1 _ _ ?_); clear hK1
  refine Tri.seq fun K2 hK2 => ?_
  refine Tri.seq fun K3 hK3 => ?_
  refine Tri.region ?_
  refine st (OK1.load (Has.t rfl) (i := 1) rfl ty24 rfl (Ss' := [_, _, _]) rfl) rfl ?_
  refine st (OK1.eq (OK1.call (zchar_square) (.cons (Has.t rfl) .nil)) ((show isB _ = isB true from isB_eq (hfs)))) rfl ?_
  refine st (OK1.not (Has.t rfl)) rfl ?_
  refine nl ?_
  refine At.thn (hK3 _ _ ?_); clear hK3
  refine Tri.cond (Has.t rfl) (fun hc1 => ?_) (fun hc1 => ?_)
  · have hc1 := BP.t hc1
    exfalso; simp at hc1
  · have hc1 := BP.f hc1
    refine Tri.skip ?_
    refine At.thn (hK2 _ _ ?_); clear hK2
    refine Tri.seq fun K4 hK4 => ?_
    refine Tri.region ?_
    refine st (OK1.load (Has.t rfl) (i := 1) rfl ty24 rfl (Ss' := [_, _, _]) rfl) rfl ?_
    refine st (OK1.call (zchar_trace hx hK hn hl) (.cons (Has.t rfl) .nil)) rfl ?_
    refine Ops.store (Has.t rfl) (Has.t rfl) (i := 0) rfl ty44 rfl rfl (Ss' := [_, _]) rfl (M' := [(some _, cellM [_, _]), _]) rfl ?_
    refine st (OK1.as (Has.cI 0 rfl)) rfl ?_
    refine nl ?_
    refine At.thn (hK4 _ _ ?_); clear hK4
    refine Tri.cv (Cv.wk (.cons (t := 2) (Has.t rfl) (.cons (t := 3) (Has.t rfl) .nil))) ?_
    refine Tri.ret ?_
    refine rtN (.inl rfl) Try.results21 rfl rfl (.cell rfl (i := 0) rfl ty44 rfl ?_ (.tmp (Has.t' rfl ?_) .nil))
    · rfl
    · rfl
set_option maxHeartbeats 4000000 in
theorem zchar_Trace_bad {r c : Int} {xs : List (Bool × List Nat)} (hf : (formB r c xs.length && decide (r = c)) = false) : Ctr Try.prog 21 [isM r c xs] (isTup [Flat [isB false, isWords []], isI 2]) := by
  refine Ctr.intro Try.func21 rfl (by kernel_rfl) Try.ntmps21 rfl fun w0 F0 => ?_
  refine Tri.cv (Cv.wk (.cons (t := 0) (Has.t rfl) .nil)) ?_
  refine Tri.seq fun K1 hK1 => ?_
  refine Tri.region ?_
  refine Ops.box (Has.t rfl) rfl fun b1 => ?_
  refine Ops.alloc [isB false, SlM isU []] zero44 (fun _ _ => ⟨rfl, nilM _ _, trivial⟩) rfl fun b2 => ?_
  refine st (OK1.as (Has.cI 0 rfl)) rfl ?_
  refine nl ?_
  refine At.thn (hK1 _ _ ?_); clear hK1
  refine Tri.seq fun K2 hK2 => ?_
  refine Tri.seq fun K3 hK3 => ?_
  refine Tri.region ?_
  refine st (OK1.load (Has.t rfl) (i := 1) rfl ty24 rfl (Ss' := [_, _, _]) rfl) rfl ?_
  refine st (OK1.eq (OK1.call (zchar_square) (.cons (Has.t rfl) .nil)) ((show isB _ = isB false from isB_eq (hf)))) rfl ?_
  refine st (OK1.not (Has.t rfl)) rfl ?_
  refine nl ?_
  refine At.thn (hK3 _ _ ?_); clear hK3
  refine Tri.cond (Has.t rfl) (fun hc1 => ?_) (fun hc1 => ?_)
  · have hc1 := BP.t hc1
    refine Tri.seq fun K4 hK4 => ?_
    refine Tri.region ?_
    refine st (OK1.build [isB false, SlM isU []] pl44 zero44 (fun _ _ => ⟨rfl, nilM _ _, trivial⟩) .nil (Z'' := [_, _]) rfl) rfl ?_
    refine Ops.store (Has.t rfl) (Has.t rfl) (i := 0) rfl ty44 rfl rfl (Ss' := [_, _]) rfl (M' := [(some _, cellM [_, _]), _]) rfl ?_
    refine st (OK1.as (Has.cI 2 rfl)) rfl ?_
    refine nl ?_
    refine At.thn (hK4 _ _ ?_); clear hK4
    refine Tri.cv (Cv.wk (.cons (t := 1) (Has.t rfl) (.cons (t := 2) (Has.t rfl) (.cons (t := 3) (Has.t rfl) .nil)))) ?_
    refine Tri.ret ?_
    refine At.thr ?_
    refine rtN (.inl rfl) Try.results21 rfl rfl (.cell rfl (i := 0) rfl ty44 rfl ?_ (.tmp (Has.t' rfl ?_) .nil))
    · rfl
    · rfl
  · have hc1 := BP.f hc1
    exfalso; simp at hc1
end Go.Proofs.Ytgkbekcpmbjbdaa
/- Contracts: layer 26's laws: characteristic polynomials. -/
namespace Go.Proofs.Ytgkbekcpmbjbdaa
open Go.En Go.RowKit
set_option linter.unusedVariables false
set_option maxRecDepth 10000
open Go.Nt
open Go.Pz
open Go.Mz
open Go.Hn
open Go.Hp
open Go.Dt
open Go.Ch
theorem xmP_bd {n K : Nat} {L : List Int} (h : Bd L K) (hK : 1 ≤ K) (i j : Nat) : Bd (xmP (mf n L) i j) K := by
  have h1 : (List.length (words (-(mf n L i j)).natAbs)) ≤ K := by rw [Int.natAbs_neg]; exact h _
  have h2 : (List.length (words (1 : Int).natAbs)) ≤ K := Nat.le_trans (nw_small' (by decide)) hK
  have h0 : (List.length (words (0 : Int).natAbs)) ≤ K := by rw [Int.natAbs_zero, words_zero]; exact Nat.zero_le _
  unfold xmP
  split
  · exact fun m => by match m with | 0 => exact h1 | 1 => exact h2 | m + 2 => exact h0
  · exact fun m => by match m with | 0 => exact h1 | m + 1 => exact h0
set_option maxHeartbeats 4000000 in
theorem c_ZcharChars_bad (r c : Int) (xs : List (Bool × List Nat)) (hf : (formB r c xs.length && decide (r = c)) = false) : Ctr Try.prog 5 [isM r c xs] (isB true) := by
  refine Ctr.intro Try.func5 rfl (by kernel_rfl) Try.ntmps5 rfl fun w0 F0 => ?_
  refine Tri.cv (Cv.wk (.cons (t := 0) (Has.t rfl) .nil)) ?_
  refine Tri.seq fun K1 hK1 => ?_
  refine Tri.region ?_
  refine Ops.box (Has.t rfl) rfl fun b1 => ?_
  refine st (OK1.as (Has.cB false)) rfl ?_
  refine nl ?_
  refine At.thn (hK1 _ _ ?_); clear hK1
  refine Tri.seq fun K2 hK2 => ?_
  refine Tri.seq fun K3 hK3 => ?_
  refine Tri.region ?_
  refine st (OK1.call (law26_awake) .nil) rfl ?_
  refine st (OK1.not (Has.t rfl)) rfl ?_
  refine st (OK1.mv (Has.t rfl)) rfl ?_
  refine stF rfl rfl (fun hg => have hg' := BP.t hg; OK1.load (Has.t rfl) (i := 0) rfl ty24 rfl (Ss' := [_, _, _]) rfl) rfl ?_
  refine stF rfl rfl (fun hg => have hg' := BP.t hg; OK1.call (ref11_Few) (.cons (Has.g rfl hg) (.cons (Has.cI 4 rfl) (.cons (Has.cI 2 rfl) .nil)))) rfl ?_
  refine stF rfl rfl (fun hg => have hg' := BP.t hg; OK1.not (Has.g rfl hg)) rfl ?_
  refine st (OK1.pickOr (Has.t rfl) (fun h => Has.g rfl (ng h))) rfl ?_
  refine nl ?_
  refine At.thn (hK3 _ _ ?_); clear hK3
  refine Tri.cv (Cv.wk (.cons (t := 1) (Has.t rfl) (.cons (t := 2) (Has.t rfl) (.cons (t := 16) (Has.t rfl) .nil)))) ?_
  refine Tri.cond (Has.t rfl) (fun hc1 => ?_) (fun hc1 => ?_)
  · have hc1 := BP.t hc1
    refine Tri.seq fun K4 hK4 => ?_
    refine Tri.region ?_
    refine st (OK1.call (law26_awake) .nil) rfl ?_
    refine st (OK1.as (Has.t rfl)) rfl ?_
    refine nl ?_
    refine At.thn (hK4 _ _ ?_); clear hK4
    refine Tri.ret ?_
    refine At.thr ?_
    refine rt1 (.inl rfl) Try.results5 rfl (.tmp (Has.t' rfl ?_) .nil)
    all_goals (rfl)
  · have hc1 := BP.f hc1
    refine Tri.skip ?_
    refine At.thn (hK2 _ _ ?_); clear hK2
    refine Tri.seq fun K5 hK5 => ?_
    refine Tri.region ?_
    refine st (OK1.load (Has.t rfl) (i := 0) rfl ty24 rfl (Ss' := [_, _, _]) rfl) rfl ?_
    refine st (OK1.call (zchar_Char_bad hf) (.cons (Has.t rfl) .nil)) rfl ?_
    refine st (OK1.mv (Has.t rfl)) rfl ?_
    refine st (OK1.ext (Has.t rfl) rfl) rfl ?_
    refine st (OK1.ext (Has.t rfl) rfl) rfl ?_
    refine st (OK1.as (Has.t rfl)) rfl ?_
    refine st (OK1.as (Has.t rfl)) rfl ?_
    refine nl ?_
    refine At.thn (hK5 _ _ ?_); clear hK5
    refine Tri.cv (Cv.wk (.cons (t := 1) (Has.t rfl) (.cons (t := 2) (Has.t rfl) (.cons (t := 3) (Has.t rfl) (.cons (t := 4) (Has.t rfl) .nil))))) ?_
    refine Tri.seq fun K6 hK6 => ?_
    refine Tri.region ?_
    refine st (OK1.load (Has.t rfl) (i := 0) rfl ty24 rfl (Ss' := [_, _, _]) rfl) rfl ?_
    refine st (OK1.call (zchar_Trace_bad hf) (.cons (Has.t rfl) .nil)) rfl ?_
    refine st (OK1.mv (Has.t rfl)) rfl ?_
    refine st (OK1.ext (Has.t rfl) rfl) rfl ?_
    refine st (OK1.ext (Has.t rfl) rfl) rfl ?_
    refine Ops.alloc [isB false, SlM isU []] zero44 (fun _ _ => ⟨rfl, nilM _ _, trivial⟩) rfl fun b2 => ?_
    refine Ops.store (Has.t rfl) (Has.t rfl) (i := 0) rfl ty44 rfl rfl (Ss' := [_, _]) rfl (M' := [(some _, cellM [_, _]), _]) rfl ?_
    refine st (OK1.as (Has.t rfl)) rfl ?_
    refine nl ?_
    refine At.thn (hK6 _ _ ?_); clear hK6
    refine Tri.cv (Cv.wk (.cons (t := 1) (Has.t rfl) (.cons (t := 2) (Has.t rfl) (.cons (t := 3) (Has.t rfl) (.cons (t := 4) (Has.t rfl) (.cons (t := 5) (Has.t rfl) (.cons (t := 6) (Has.t rfl) .nil))))))) ?_
    refine Tri.seq fun K7 hK7 => ?_
    refine Tri.seq fun K8 hK8 => ?_
    refine Tri.region ?_
    refine st (OK1.load (Has.t rfl) (i := 1) rfl ty24 rfl (Ss' := [_, _, _]) rfl) rfl ?_
    refine st (OK1.eq (OK1.call (law26_square) (.cons (Has.t rfl) .nil)) ((show isB _ = isB false from isB_eq (hf)))) rfl ?_
    refine st (OK1.not (Has.t rfl)) rfl ?_
    refine nl ?_
    refine At.thn (hK8 _ _ ?_); clear hK8
    refine Tri.cond (Has.t rfl) (fun hc2 => ?_) (fun hc2 => ?_)
    · have hc2 := BP.t hc2
      refine Tri.seq fun K9 hK9 => ?_
      refine Tri.region ?_
      refine st (OK1.mv (Has.t rfl)) rfl ?_
      refine st (OK1.eqI (Has.t rfl) (Has.cI 2 rfl)) rfl ?_
      refine st (OK1.mv (Has.t rfl)) rfl ?_
      refine stT rfl rfl (fun hg => have hg' := BP.t hg; OK1.mv (Has.t rfl)) rfl ?_
      refine stT rfl rfl (fun hg => have hg' := BP.t hg; OK1.eqI (Has.g rfl hg) (Has.cI 2 rfl)) rfl ?_
      refine st (OK1.pickAnd (Has.t rfl) (fun h => Has.g rfl h)) rfl ?_
      refine st (OK1.mv (Has.t rfl)) rfl ?_
      refine stT rfl rfl (fun hg => have hg' := BP.t hg; OK1.mv (Has.t rfl)) rfl ?_
      refine stT rfl rfl (fun hg => have hg' := BP.t hg; OK1.len sl34 (Has.g rfl hg)) rfl ?_
      refine stT rfl rfl (fun hg => have hg' := BP.t hg; OK1.eqI (Has.g rfl hg) (Has.cI 0 rfl)) rfl ?_
      refine st (OK1.pickAnd (Has.t rfl) (fun h => Has.g rfl h)) rfl ?_
      refine st (OK1.mv (Has.t rfl)) rfl ?_
      refine stT rfl rfl (fun hg => have hg' := BP.t hg; OK1.load (Has.t rfl) (i := 0) rfl ty44 rfl (Ss' := [_, _]) rfl) rfl ?_
      refine stT rfl rfl (fun hg => have hg' := BP.t hg; OK1.eq (OK1.call (zint_Sign (by show (List.length (words (val []))) < _; rw [show val [] = 0 from rfl, words_zero]; decide)) (.cons (Has.g rfl hg) .nil)) ((show _ = isI 0 from rfl))) rfl ?_
      refine stT rfl rfl (fun hg => have hg' := BP.t hg; OK1.eqI (Has.g rfl hg) (Has.cI 0 rfl)) rfl ?_
      refine st (OK1.pickAnd (Has.t rfl) (fun h => Has.g rfl h)) rfl ?_
      refine st (OK1.as (Has.t rfl)) rfl ?_
      refine nl ?_
      refine At.thn (hK9 _ _ ?_); clear hK9
      refine Tri.cv (Cv.wk (.cons (t := 1) (Has.t rfl) (.cons (t := 2) (Has.t rfl) (.cons (t := 3) (Has.t rfl) (.cons (t := 4) (Has.t rfl) (.cons (t := 5) (Has.t rfl) (.cons (t := 6) (Has.t rfl) .nil))))))) ?_
      refine Tri.ret ?_
      refine At.thr ?_
      refine rt1 (.inl rfl) Try.results5 rfl (.tmp (Has.t' rfl ?_) .nil)
      all_goals (rfl)
    · have hc2 := BP.f hc2
      exfalso; simp at hc2
set_option maxHeartbeats 4000000 in
theorem c_ZcharChars_ok (n : Nat) (xs : List (Bool × List Nat)) (hn : n ≤ 64) (hl : xs.length = n * n) : Ctr Try.prog 5 [isM (n : Int) (n : Int) xs] (isB true) := by
  refine Ctr.intro Try.func5 rfl (by kernel_rfl) Try.ntmps5 rfl fun w0 F0 => ?_
  refine Tri.cv (Cv.wk (.cons (t := 0) (Has.t rfl) .nil)) ?_
  refine Tri.fact (Has.okM (Has.t (t := 0) rfl)) fun okp0 => ?_
  have hfo := formB_true hn hn hl
  have hfs : (formB (n : Int) (n : Int) xs.length && decide ((n : Int) = (n : Int))) = true := by rw [hfo]; simp
  have hRC := side_le hn hn
  refine Tri.seq fun K1 hK1 => ?_
  refine Tri.region ?_
  refine Ops.box (Has.t rfl) rfl fun b1 => ?_
  refine st (OK1.as (Has.cB false)) rfl ?_
  refine nl ?_
  refine At.thn (hK1 _ _ ?_); clear hK1
  refine Tri.seq fun K2 hK2 => ?_
  refine Tri.seq fun K3 hK3 => ?_
  refine Tri.region ?_
  refine st (OK1.call (law26_awake) .nil) rfl ?_
  refine st (OK1.not (Has.t rfl)) rfl ?_
  refine st (OK1.mv (Has.t rfl)) rfl ?_
  refine stF rfl rfl (fun hg => have hg' := BP.t hg; OK1.load (Has.t rfl) (i := 0) rfl ty24 rfl (Ss' := [_, _, _]) rfl) rfl ?_
  refine stF rfl rfl (fun hg => have hg' := BP.t hg; OK1.call (ref11_Few) (.cons (Has.g rfl hg) (.cons (Has.cI 4 rfl) (.cons (Has.cI 2 rfl) .nil)))) rfl ?_
  refine stF rfl rfl (fun hg => have hg' := BP.t hg; OK1.not (Has.g rfl hg)) rfl ?_
  refine st (OK1.pickOr (Has.t rfl) (fun h => Has.g rfl (ng h))) rfl ?_
  refine nl ?_
  refine At.thn (hK3 _ _ ?_); clear hK3
  refine Tri.cv (Cv.wk (.cons (t := 1) (Has.t rfl) (.cons (t := 2) (Has.t rfl) (.cons (t := 16) (Has.t rfl) .nil)))) ?_
  refine Tri.cond (Has.t rfl) (fun hc1 => ?_) (fun hc1 => ?_)
  · have hc1 := BP.t hc1
    skip
    refine Tri.seq fun K4 hK4 => ?_
    refine Tri.region ?_
    refine st (OK1.call (law26_awake) .nil) rfl ?_
    refine st (OK1.as (Has.t rfl)) rfl ?_
    refine nl ?_
    refine At.thn (hK4 _ _ ?_); clear hK4
    refine Tri.ret ?_
    refine At.thr ?_
    refine rt1 (.inl rfl) Try.results5 rfl (.tmp (Has.t' rfl ?_) .nil)
    all_goals (rfl)
  · have hc1 := BP.f hc1
    have HF0 : (n : Int) ≤ 4 ∧ fewB xs 100 2 = true := (by simpa [and_assoc] using hc1)
    obtain ⟨hn4, HF⟩ := HF0
    obtain ⟨_, hb⟩ := fewB_bd (N := 100) (K := 2) okp0 HF rfl rfl (by decide)
    have hfb : flB n 2 n ≤ 1 + 3 * 11 := Nat.add_le_add_left (Nat.mul_le_mul (by omega) (by omega)) _
    have htn : ∀ k, (List.length (words (trcL n (vals xs) k).natAbs)) ≤ 2 + k := fun k => sm_nw (fun i => hb _) k
    have htt := htn n
    have hcb := chL_bd (n := n) hb
    have hPl : ∀ i j, (xmP (mf n (vals xs)) i j).length ≤ 2 := fun i j => by unfold xmP; split <;> simp
    have hPb : ∀ i j, Bd (xmP (mf n (vals xs)) i j) 2 := fun i j => xmP_bd hb (by decide) i j
    have hDb := (pd_bd n _ hPl hPb).mono (pdB_le (K := 2) (n := n) (by decide) (by omega))
    have hDl := pd_len n _ hPl
    have hch := pd_char n (vals xs)
    obtain ⟨W, hW⟩ : ∃ W, W = pd n (xmP (mf n (vals xs))) := ⟨_, rfl⟩
    rw [← hW] at hDb hDl hch
    refine Tri.skip ?_
    refine At.thn (hK2 _ _ ?_); clear hK2
    refine Tri.seq fun K5 hK5 => ?_
    refine Tri.region ?_
    refine st (OK1.load (Has.t rfl) (i := 0) rfl ty24 rfl (Ss' := [_, _, _]) rfl) rfl ?_
    refine st (OK1.call (zchar_Char (K := 2) hb (by omega) hn hl) (.cons (Has.t rfl) .nil)) rfl ?_
    refine st (OK1.mv (Has.t rfl)) rfl ?_
    refine st (OK1.ext (Has.t rfl) rfl) rfl ?_
    refine st (OK1.ext (Has.t rfl) rfl) rfl ?_
    refine st (OK1.as (Has.t rfl)) rfl ?_
    refine st (OK1.as (Has.t rfl)) rfl ?_
    refine nl ?_
    refine At.thn (hK5 _ _ ?_); clear hK5
    refine Tri.cv (Cv.wk (.cons (t := 1) (Has.t rfl) (.cons (t := 2) (Has.t rfl) (.cons (t := 3) (Has.t rfl) (.cons (t := 4) (Has.t rfl) .nil))))) ?_
    refine Tri.seq fun K6 hK6 => ?_
    refine Tri.region ?_
    refine st (OK1.load (Has.t rfl) (i := 0) rfl ty24 rfl (Ss' := [_, _, _]) rfl) rfl ?_
    refine st (OK1.call (zchar_Trace (K := 2) hb (by decide) hn hl) (.cons (Has.t rfl) .nil)) rfl ?_
    refine st (OK1.mv (Has.t rfl)) rfl ?_
    refine st (OK1.ext (Has.t rfl) rfl) rfl ?_
    refine st (OK1.ext (Has.t rfl) rfl) rfl ?_
    refine Ops.alloc [isB false, SlM isU []] zero44 (fun _ _ => ⟨rfl, nilM _ _, trivial⟩) rfl fun b2 => ?_
    refine Ops.store (Has.t rfl) (Has.t rfl) (i := 0) rfl ty44 rfl rfl (Ss' := [_, _]) rfl (M' := [(some _, cellM [_, _]), _]) rfl ?_
    refine st (OK1.as (Has.t rfl)) rfl ?_
    refine nl ?_
    refine At.thn (hK6 _ _ ?_); clear hK6
    refine Tri.cv (Cv.wk (.cons (t := 1) (Has.t rfl) (.cons (t := 2) (Has.t rfl) (.cons (t := 3) (Has.t rfl) (.cons (t := 4) (Has.t rfl) (.cons (t := 5) (Has.t rfl) (.cons (t := 6) (Has.t rfl) .nil))))))) ?_
    refine Tri.seq fun K7 hK7 => ?_
    refine Tri.seq fun K8 hK8 => ?_
    refine Tri.region ?_
    refine st (OK1.load (Has.t rfl) (i := 1) rfl ty24 rfl (Ss' := [_, _, _]) rfl) rfl ?_
    refine st (OK1.eq (OK1.call (law26_square) (.cons (Has.t rfl) .nil)) ((show isB _ = isB true from isB_eq (hfs)))) rfl ?_
    refine st (OK1.not (Has.t rfl)) rfl ?_
    refine nl ?_
    refine At.thn (hK8 _ _ ?_); clear hK8
    refine Tri.cond (Has.t rfl) (fun hc2 => ?_) (fun hc2 => ?_)
    · have hc2 := BP.t hc2
      exfalso; simp at hc2
    · have hc2 := BP.f hc2
      skip
      refine Tri.skip ?_
      refine At.thn (hK7 _ _ ?_); clear hK7
      refine Tri.seq fun K9 hK9 => ?_
      refine Tri.region ?_
      refine st (OK1.load (Has.t rfl) (i := 1) rfl ty24 rfl (Ss' := [_, _, _]) rfl) rfl ?_
      refine st (OK1.eq (OK1.call (ref26_Char (K := 2) hb (by decide) (by decide) (by omega) hl) (.cons (Has.t rfl) .nil)) ((show _ = isP W from isPl_eq hW.symm))) rfl ?_
      refine st (OK1.as (Has.t rfl)) rfl ?_
      refine nl ?_
      refine At.thn (hK9 _ _ ?_); clear hK9
      refine Tri.cv (Cv.wk (.cons (t := 1) (Has.t rfl) (.cons (t := 2) (Has.t rfl) (.cons (t := 3) (Has.t rfl) (.cons (t := 4) (Has.t rfl) (.cons (t := 5) (Has.t rfl) (.cons (t := 6) (Has.t rfl) (.cons (t := 7) (Has.t rfl) .nil)))))))) ?_
      refine Tri.seq fun K10 hK10 => ?_
      refine Tri.region ?_
      refine st (OK1.call (zint_Of) (.cons (Has.cI 0 rfl) .nil)) rfl ?_
      refine Ops.alloc [isB false, SlM isU []] zero44 (fun _ _ => ⟨rfl, nilM _ _, trivial⟩) rfl fun b3 => ?_
      refine Ops.store (Has.t rfl) (Has.t rfl) (i := 0) rfl ty44 rfl rfl (Ss' := [_, _]) rfl (M' := [(some _, cellM [_, _]), _, _]) rfl ?_
      refine nl ?_
      refine At.thn (hK10 _ _ ?_); clear hK10
      refine Tri.seq fun K11 hK11 => ?_
      refine Tri.seq fun K12 hK12 => ?_
      refine Tri.region ?_
      refine st (OK1.as (Has.cI 0 rfl)) rfl ?_
      refine nl ?_
      refine At.thn (hK12 _ _ ?_); clear hK12
      refine Tri.block ?_
      refine Tri.loopF [1, 2, 3, 4, 5, 6, 7, 8] (fun (z : { i : Nat // i ≤ n }) => match z with | ⟨i, hi⟩ => [(9, isI (i : Int))]) (fun M => fun (z : { i : Nat // i ≤ n }) => match z with | ⟨i, hi⟩ => [zM b3 (trcL n (vals xs) i), zM b2 (trcL n (vals xs) n), (some b1, cellM [isI (n : Int), isI (n : Int), SlK 2 zc xs])]) (fun (z : { i : Nat // i ≤ n }) => match z with | ⟨i, hi⟩ => n - i) (⟨0, Nat.zero_le _⟩) (Cv.mem (.cons (t := 9) (Has.t' rfl ?_) (.cons (t := 1) (Has.t rfl) (.cons (t := 2) (Has.t rfl) (.cons (t := 3) (Has.t rfl) (.cons (t := 4) (Has.t rfl) (.cons (t := 5) (Has.t rfl) (.cons (t := 6) (Has.t rfl) (.cons (t := 7) (Has.t rfl) (.cons (t := 8) (Has.t rfl) .nil))))))))) ?_) ?_
      · rfl
      · rfl
      rintro ⟨i, hi⟩ K13 hK13
      refine Tri.cv (Cv.wk (.cons (t := 9) (Has.t rfl) (.cons (t := 1) (Has.t rfl) (.cons (t := 2) (Has.t rfl) (.cons (t := 3) (Has.t rfl) (.cons (t := 4) (Has.t rfl) (.cons (t := 5) (Has.t rfl) (.cons (t := 6) (Has.t rfl) (.cons (t := 7) (Has.t rfl) (.cons (t := 8) (Has.t rfl) .nil)))))))))) ?_
      refine Tri.memEq (M' := [zM b3 (trcL n (vals xs) i), zM b2 (trcL n (vals xs) n), (some b1, cellM [isI (n : Int), isI (n : Int), SlK 2 zc xs])]) rfl ?_
      refine Tri.seq fun K14 hK14 => ?_
      refine Tri.seq fun K15 hK15 => ?_
      refine Tri.region ?_
      refine st (OK1.mv (Has.t rfl)) rfl ?_
      refine st (OK1.fieldAddr (Has.t rfl) fld24_0 ty3) rfl ?_
      refine st (OK1.load1 (Has.t rfl) (i := 2) rfl ty3 rfl) rfl ?_
      refine st (OK1.ltI (Has.t rfl) (Has.t rfl)) rfl ?_
      refine nl ?_
      refine At.thn (hK15 _ _ ?_); clear hK15
      refine Tri.cond (Has.t rfl) (fun hc3 => ?_) (fun hc3 => ?_)
      · have hc3 := BP.t hc3
        have hti := htn i
        have hpl := place_lt (show i < n by omega) (show i < n by omega)
        have hxr := hb.raw (i * n + i)
        refine Tri.skip ?_
        refine At.thn (hK14 _ _ ?_); clear hK14
        refine Tri.seq fun K16 hK16 => ?_
        refine Tri.block ?_
        refine Tri.dr ?_
        refine DrG.st (i := 0) [] rfl rfl rfl (by kernel_rfl) (OKG.o rfl (OK1.load (Has.t rfl) (i := 0) rfl ty44 rfl (Ss' := [_, _]) rfl)) ?_
        refine DrG.st (i := 1) [] rfl rfl rfl (by kernel_rfl) (OKG.o rfl (OK1.load (Has.t rfl) (i := 2) rfl ty24 rfl (Ss' := [_, _, _]) rfl)) ?_
        refine DrG.st (i := 2) [] rfl rfl rfl (by kernel_rfl) (OKG.o rfl (OK1.mv (Has.t rfl))) ?_
        refine DrG.st (i := 3) [] rfl rfl rfl (by kernel_rfl) (OKG.o rfl (OK1.mv (Has.t rfl))) ?_
        refine DrG.st (i := 4) [57, 58, 59] rfl rfl rfl (by kernel_rfl) (OKG.o rfl (OK1.call (ref11_At (i := i) (k := i) (by omega) (by omega)) (.cons (Has.t rfl) (.cons (Has.t rfl) (.cons (Has.t rfl) .nil))))) ?_
        refine DrG.fin (n := 5) mixed (by kernel_rfl) (by kernel_rfl) (by kernel_rfl) ?_
        refine Ops.cv (Cv.wk (.cons (t := 1) (Has.t rfl) (.cons (t := 2) (Has.t rfl) (.cons (t := 3) (Has.t rfl) (.cons (t := 4) (Has.t rfl) (.cons (t := 5) (Has.t rfl) (.cons (t := 6) (Has.t rfl) (.cons (t := 7) (Has.t rfl) (.cons (t := 8) (Has.t rfl) (.cons (t := 9) (Has.t rfl) (.cons (t := 50) (Has.t rfl) (.cons (t := 51) (Has.t rfl) (.cons (t := 52) (Has.t rfl) (.cons (t := 53) (Has.t rfl) (.cons (t := 56) (Has.t rfl) (.cons (t := 57) (Has.t rfl) (.cons (t := 58) (Has.t rfl) (.cons (t := 59) (Has.t rfl) (.cons (t := 60) (Has.t rfl) .nil))))))))))))))))))) ?_
        refine st (OK1.eq (OK1.call (zint_Add (by rw [val_words]; omega) (by omega)) (.cons (Has.t rfl) (.cons (Has.t rfl) .nil))) ((show isZ _ = isZ (trcL n (vals xs) (i + 1)) from isZ_eq (by simp only [zv_nf]; show _ = trcL n (vals xs) i + cf (vals xs) (i * n + i); rw [cf_vals])))) rfl ?_
        refine Ops.store (Has.t rfl) (Has.t rfl) (i := 0) rfl ty44 rfl rfl (Ss' := [_, _]) rfl (M' := [(some _, cellM [_, _]), _, _]) rfl ?_
        refine nl ?_
        refine At.bln ?_
        refine At.thn (hK16 _ _ ?_); clear hK16
        refine Tri.region ?_
        refine st (OK1.mv (Has.t rfl)) rfl ?_
        refine st (OK1.addI (Has.t rfl) (Has.cI 1 rfl) (by first | omega | assumption) (by first | omega | assumption)) rfl ?_
        refine st (OK1.as (Has.t rfl)) rfl ?_
        refine nl ?_
        refine At.thn ?_
        refine hK13 (⟨i + 1, by omega⟩) _ _ ?_ (Cv.mem (.cons (t := 9) (Has.t' rfl ?_) (.cons (t := 1) (Has.t rfl) (.cons (t := 2) (Has.t rfl) (.cons (t := 3) (Has.t rfl) (.cons (t := 4) (Has.t rfl) (.cons (t := 5) (Has.t rfl) (.cons (t := 6) (Has.t rfl) (.cons (t := 7) (Has.t rfl) (.cons (t := 8) (Has.t rfl) .nil))))))))) ?_)
        · show n - (i + 1) < n - i; omega
        · exact isI_eq (by omega)
        · rfl
      · have hc3 := BP.f hc3
        have hin : i = n := (by omega)
        refine Tri.exit ?_
        refine At.the ?_
        refine At.the ?_
        refine At.blh ?_
        refine At.thn (hK11 _ _ ?_); clear hK11
        refine Tri.cv (Cv.wk (.cons (t := 2) (Has.t rfl) (.cons (t := 3) (Has.t rfl) (.cons (t := 4) (Has.t rfl) (.cons (t := 5) (Has.t rfl) (.cons (t := 6) (Has.t rfl) (.cons (t := 7) (Has.t rfl) (.cons (t := 8) (Has.t rfl) .nil)))))))) ?_
        refine Tri.seq fun K17 hK17 => ?_
        refine Tri.region ?_
        refine st (OK1.mv (Has.t rfl)) rfl ?_
        refine st (OK1.eqI (Has.t rfl) (Has.cI 0 rfl)) rfl ?_
        refine st (OK1.mv (Has.t rfl)) rfl ?_
        refine stT rfl rfl (fun hg => have hg' := BP.t hg; OK1.mv (Has.t rfl)) rfl ?_
        refine stT rfl rfl (fun hg => have hg' := BP.t hg; OK1.eqI (Has.g rfl hg) (Has.cI 0 rfl)) rfl ?_
        refine st (OK1.pickAnd (Has.t rfl) (fun h => Has.g rfl h)) rfl ?_
        refine st (OK1.mv (Has.t rfl)) rfl ?_
        refine stT rfl rfl (fun hg => have hg' := BP.t hg; OK1.load (Has.t rfl) (i := 1) rfl ty44 rfl (Ss' := [_, _]) rfl) rfl ?_
        refine stT rfl rfl (fun hg => have hg' := BP.t hg; OK1.load (Has.t rfl) (i := 0) rfl ty44 rfl (Ss' := [_, _]) rfl) rfl ?_
        refine stT rfl rfl (fun hg => have hg' := BP.t hg; OK1.eq (OK1.call (zint_Same (by rw [val_words]; omega) (by rw [val_words]; rw [hin]; omega)) (.cons (Has.g rfl hg) (.cons (Has.g rfl hg) .nil))) ((show isB _ = isB true from isB_eq (decide_eq_true (by simp only [zv_nf]; rw [hin]))))) rfl ?_
        refine st (OK1.pickAnd (Has.t rfl) (fun h => Has.g rfl h)) rfl ?_
        refine st (OK1.mv (Has.t rfl)) rfl ?_
        refine stT rfl rfl (fun hg => have hg' := BP.t hg; OK1.mv (Has.t rfl)) rfl ?_
        refine stT rfl rfl (fun hg => have hg' := BP.t hg; OK1.mv (Has.t rfl)) rfl ?_
        refine stT rfl rfl (fun hg => have hg' := BP.t hg; OK1.eq (OK1.call (ref10_Is (K := 100) (L := 2000) (hcb.mono (by omega)) (by rw [vals_nz]; exact hDb) (by decide) (by decide) (by rw [chL_len]; omega) (by rw [List.length_map]; omega)) (.cons (Has.g rfl hg) (.cons (Has.g rfl hg) .nil))) ((show isB _ = isB true from isB_eq (isB2_true (chL_norm n _) (fun i => by rw [vals_nz]; exact hch i))))) rfl ?_
        refine st (OK1.pickAnd (Has.t rfl) (fun h => Has.g rfl h)) rfl ?_
        refine st (OK1.as (Has.t rfl)) rfl ?_
        refine nl ?_
        refine At.thn (hK17 _ _ ?_); clear hK17
        refine Tri.cv (Cv.wk (.cons (t := 2) (Has.t rfl) .nil)) ?_
        refine Tri.ret ?_
        refine rt1 (.inl rfl) Try.results5 rfl (.tmp (Has.t' rfl ?_) .nil)
        all_goals (rfl)
theorem c_ZcharChars (r c : Int) (xs : List (Bool × List Nat)) : Ctr Try.prog 5 [isM r c xs] (isB true) := by
  cases h : formB r c xs.length && decide (r = c) with
  | true =>
    rw [Bool.and_eq_true, decide_eq_true_eq] at h
    obtain ⟨h1, rfl⟩ := h
    obtain ⟨n, C, rfl, hC, h2, _, h4⟩ := formB_iff.1 h1
    obtain rfl : n = C := by omega
    exact c_ZcharChars_ok n xs h2 h4
  | false => exact c_ZcharChars_bad r c xs h
end Go.Proofs.Ytgkbekcpmbjbdaa
/- Slices of whole numbers that a law is handed. -/
namespace Go.En
open Go.RowKit Go.ChangeShapes Go.WideShapes Go.ChangeAt
set_option linter.unusedVariables false
theorem pair_get {α β : Type} (g h : α → β) : ∀ (l : List α) (j : Nat), (l.flatMap fun a => [g a, h a])[j]? = (l[j / 2]?).map (fun a => if j % 2 = 0 then g a else h a)
  | [], j => by simp
  | a :: l, 0 => by simp
  | a :: l, 1 => by simp
  | a :: l, j + 2 => by
    have := pair_get g h l j
    rw [show (j + 2) / 2 = j / 2 + 1 by omega, show (j + 2) % 2 = j % 2 by omega]
    simpa using this
section
variable {H : Type} {enc : TypeId × Value → H} {P : Program}
end
end Go.En
