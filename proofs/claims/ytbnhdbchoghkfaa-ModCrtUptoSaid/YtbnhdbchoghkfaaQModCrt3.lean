/- Rules and contracts, part 3 of 5. -/
import Derived.Test.YtbnhdbchoghkfaaQModCrt2
/- Function values: made with what they capture, handed on, called. -/
namespace Go.En
open Go.RowKit
set_option linter.unusedVariables false
/-- a function value: with arguments as the family tells, it hands back what the family tells -/
def isFun {ι : Type} (P : Program) (As : ι → List VP) (R : ι → VP) : VP :=
  ⟨fun w F v => ∃ (g : FuncId) (first cap : List Value) (Bs Cs : List VP), v = .func (.func g) first.toArray cap.toArray ∧ (∀ i, Ctr P g (Bs ++ As i ++ Cs) (R i)) ∧ All2 Bs w F first ∧ All2 Cs w F cap,
   fun w w' F F' v h h1 h2 => by
    obtain ⟨g, first, cap, Bs, Cs, e, hC, hB, hc⟩ := h
    exact ⟨g, first, cap, Bs, Cs, e, hC, All2.mono h1 h2 _ _ hB, All2.mono h1 h2 _ _ hc⟩⟩
instance {ι : Type} {P : Program} {As : ι → List VP} {R : ι → VP} : One (isFun P As R) := ⟨fun w F v h => by obtain ⟨g, first, cap, Bs, Cs, e, _⟩ := h; rw [e]; rfl⟩
instance {ι : Type} {P : Program} {As : ι → List VP} {R : ι → VP} : Shape (isFun P As R) [isFun P As R] := .of_one inferInstance
instance {Ss : List VP} : One (PtrL Ss) := ⟨fun w F v h => by obtain ⟨b, off, e, _⟩ := h; rw [e]; rfl⟩
instance {Ss : List VP} : Shape (PtrL Ss) [PtrL Ss] := .of_one inferInstance
section
variable {E : Env} {P : Program} {Γ : Ctx} {M : Mem} {ty : TypeId} {pos : String} {after : Array Edge} {gd : Option (Nat × Bool)} {d : Option Tmp}
  {ops : Array Oper} {Q : Exit → Act → World → Prop} {rest : List Oper} {T T' : TypeId} {x y : Operand} {α ι : Type} {As : ι → List VP} {R : ι → VP}
theorem Has.fn {g : FuncId} (h : ∀ i, Ctr P g (As i) (R i)) : Has E Γ M (.func g) (isFun P As R) :=
  fun a w F s => ⟨g, [], [], [], [], rfl, fun i => by rw [List.nil_append, List.append_nil]; exact h i, trivial, trivial⟩
theorem OK1.callV {xs : List Operand} {ts : Array TypeId} (i : ι) (hf : Has E Γ M x (isFun P As R)) (hx : HasL E Γ M xs (As i)) :
    OK1 E P Γ M ⟨d, .call ⟨.value x, xs.toArray, ts⟩, ty, pos, after, gd⟩ (R i) := by
  intro a w F s K Q hK
  unfold Oper.wp
  obtain ⟨g, first, cap, Bs, Cs, e, hC, hB, hc⟩ := hf a w F s
  have hr : (execOp a.eval (⟨d, .call ⟨.value x, xs.toArray, ts⟩, ty, pos, after, gd⟩ : Oper)).run P w = .ok (.enter g (first ++ xs.map a.eval ++ cap).toArray) w := by
    have := run_enter (hC i).1 (first ++ xs.map a.eval ++ cap).toArray w
    simp only [execOp, resolve, Sem.run_bind, e, Deferred.ofValue, Sem.run_pure, Result.andThen_ok, invoke]
    simpa [go_sem] using this
  rw [hr]
  refine ((hC i).2 w F _ s.flt ((hB.append (hx.all s)).append hc)).mono ?_
  rintro e w' ⟨v, rfl, hk, hv⟩
  exact hK v w' _ ⟨hk, fun b hb => .inl hb, fun b hb => hb⟩ hv
end
end Go.En
/- Elements appended to a slice that grows, that may be none. -/
namespace Go.En
open Go.RowKit
set_option linter.unusedVariables false
section
variable {E : Env} {P : Program} {Γ : Ctx} {M : Mem} {ty : TypeId} {pos : String} {after : Array Edge} {gd : Option (Nat × Bool)} {d : Option Tmp}
  {ops : Array Oper} {Q : Exit → Act → World → Prop} {rest : List Oper} {T T' : TypeId} {x y : Operand} {α : Type} {f : α → VP} {fk : α → List VP} {xs : List α} {k : Nat}
theorem Cv.winGrM {t b n c i : Nat} {ys : List α} (ht : look Γ t = some (isWin b 0 n c)) (hM : M[i]? = some (some b, cellM (xs.map f))) (hn : n ≤ xs.length) (hc : xs.length = c) (hy : xs.take n = ys) :
    Cv E Γ M ((t, isGr (⟨some b, c, xs.drop n⟩ : Gr α) ys.length) :: Γ) (M.set i (grM f ⟨some b, c, xs.drop n⟩ ys)) := fun a w F s => by
  subst hy
  have e : (xs.take n).length = n := by rw [List.length_take]; omega
  rw [e]
  have hset : M.set i (grM f ⟨some b, c, xs.drop n⟩ (xs.take n)) = M := by
    refine set_self ?_
    rw [hM]; unfold grM; simp only [List.take_append_drop]
  rw [hset]
  refine ⟨F, s.wider fun t' S' ht' => ?_⟩
  simp only [look] at ht'
  cases hb : Nat.beq t t' with
  | false => rw [hb] at ht'; exact s.slots t' S' ht'
  | true =>
    rw [hb] at ht'
    obtain rfl : isGr (⟨some b, c, xs.drop n⟩ : Gr α) n = S' := by simpa using ht'
    obtain rfl := Nat.eq_of_beq_eq_true hb
    obtain ⟨e1, e2, e3⟩ := s.slots _ _ ht
    exact .inr ⟨b, rfl, e1, by show n + (xs.drop n).length = c; rw [List.length_drop]; omega, e3⟩
theorem Cv.freezeGn {t i n : Nat} {g : Gr α} {ys : List α} (hW : E.W = []) (ht : look Γ t = some (isGr g n)) (hM : M[i]? = some (grM f g ys)) (hn : n = ys.length) : Cv E Γ M ((t, SlM f ys) :: Γ) (M.eraseIdx i) := by
  subst hn; exact Cv.freezeG hW ht hM
end
end Go.En
/- Numbers as digits of 16 bits. No program here. (written by mkdig.py) -/
namespace Go.Nt
abbrev D : Nat := 65536
/-- the number of some digs, the least significant first -/
def dval : List Nat → Nat
  | [] => 0
  | x :: xs => x + D * dval xs
/-- so many digs of a number -/
def digsN : Nat → Nat → List Nat
  | 0, _ => []
  | k + 1, n => n % D :: digsN k (n / D)
/-- a number's digs, without needless noughts -/
def digs (n : Nat) : List Nat := if h : n = 0 then [] else n % D :: digs (n / D)
termination_by n
decreasing_by exact Nat.div_lt_self (Nat.pos_of_ne_zero h) (by decide)
def OkD (xs : List Nat) : Prop := ∀ x ∈ xs, x < D
theorem d_words_zero : digs 0 = [] := by unfold digs; simp
theorem d_words_pos {n : Nat} (h : n ≠ 0) : digs n = n % D :: digs (n / D) := by rw [digs]; simp [h]
theorem d_nw_zero : (List.length (digs 0)) = 0 := by rw [d_words_zero]; rfl
theorem d_nw_pos {n : Nat} (h : n ≠ 0) : (List.length (digs n)) = (List.length (digs (n / D))) + 1 := by rw [d_words_pos h]; rfl
theorem d_val_words (n : Nat) : dval (digs n) = n := by
  induction n using Nat.strongRecOn with
  | _ n ih =>
    by_cases h : n = 0
    · subst h; rw [d_words_zero]; rfl
    · rw [d_words_pos h, dval, ih _ (Nat.div_lt_self (Nat.pos_of_ne_zero h) (by decide))]
      have := Nat.mod_add_div n D; omega
theorem d_words_ok (n : Nat) : OkD (digs n) := by
  induction n using Nat.strongRecOn with
  | _ n ih =>
    by_cases h : n = 0
    · subst h; rw [d_words_zero]; intro x hx; simp at hx
    · rw [d_words_pos h]; intro x hx
      rcases List.mem_cons.1 hx with rfl | hx
      · exact Nat.mod_lt _ (by decide)
      · exact ih _ (Nat.div_lt_self (Nat.pos_of_ne_zero h) (by decide)) x hx
theorem d_wordsN_len : ∀ (k n : Nat), (digsN k n).length = k
  | 0, _ => rfl
  | k + 1, n => by simp [digsN, d_wordsN_len k]
theorem d_wordsN_ok : ∀ (k n : Nat), OkD (digsN k n)
  | 0, _ => fun x hx => by simp [digsN] at hx
  | k + 1, n => fun x hx => by
    rcases List.mem_cons.1 hx with rfl | hx
    · exact Nat.mod_lt _ (by decide)
    · exact d_wordsN_ok k _ x hx
theorem d_val_wordsN : ∀ (k n : Nat), dval (digsN k n) = n % D ^ k
  | 0, n => by simp [digsN, dval, Nat.mod_one]
  | k + 1, n => by
    rw [digsN, dval, d_val_wordsN k, Nat.pow_succ, Nat.mul_comm (D ^ k) D, Nat.mod_mul]
theorem d_val_lt {xs : List Nat} (h : OkD xs) : dval xs < D ^ xs.length := by
  induction xs with
  | nil => simp [dval]
  | cons x xs ih =>
    have h1 := h x (by simp)
    have h2 := ih (fun y hy => h y (by simp [hy]))
    rw [dval, List.length_cons, Nat.pow_succ]
    have : D * dval xs + D ≤ D * D ^ xs.length := by rw [← Nat.mul_succ]; exact Nat.mul_le_mul_left _ h2
    rw [Nat.mul_comm (D ^ xs.length)]; omega
theorem d_val_append (xs ys : List Nat) : dval (xs ++ ys) = dval xs + D ^ xs.length * dval ys := by
  induction xs with
  | nil => simp [dval]
  | cons x xs ih => rw [List.cons_append, dval, ih, dval, List.length_cons, Nat.pow_succ]; grind
theorem d_val_inj : ∀ {xs ys : List Nat}, OkD xs → OkD ys → xs.length = ys.length → dval xs = dval ys → xs = ys
  | [], [], _, _, _, _ => rfl
  | x :: xs, y :: ys, h1, h2, hl, hv => by
    have hx := h1 x (by simp)
    have hy := h2 y (by simp)
    simp only [dval] at hv
    have e : x = y := by
      have := congrArg (· % D) hv
      simp only [Nat.add_mul_mod_self_left] at this
      rwa [Nat.mod_eq_of_lt hx, Nat.mod_eq_of_lt hy] at this
    subst e
    have e2 : dval xs = dval ys := Nat.eq_of_mul_eq_mul_left (by decide : 0 < D) (by omega)
    rw [d_val_inj (fun z hz => h1 z (by simp [hz])) (fun z hz => h2 z (by simp [hz])) (by simpa using hl) e2]
theorem d_eq_wordsN {xs : List Nat} {k n : Nat} (h : OkD xs) (hl : xs.length = k) (hv : dval xs = n % D ^ k) : xs = digsN k n :=
  d_val_inj h (d_wordsN_ok _ _) (by rw [hl, d_wordsN_len]) (by rw [hv, d_val_wordsN])
theorem d_nw_lt (n : Nat) : n < D ^ (List.length (digs n)) := by have := d_val_lt (d_words_ok n); rwa [d_val_words] at this
theorem d_nw_le {n k : Nat} (h : n < D ^ k) : (List.length (digs n)) ≤ k := by
  induction k generalizing n with
  | zero => have : n = 0 := by simpa using h
            subst this; rw [d_nw_zero]; exact Nat.le_refl _
  | succ k ih =>
    by_cases h0 : n = 0
    · subst h0; rw [d_nw_zero]; omega
    · rw [d_nw_pos h0]
      have : n / D < D ^ k := by rw [Nat.div_lt_iff_lt_mul (by decide)]; rwa [Nat.pow_succ] at h
      have := ih this; omega
theorem d_nw_mono {m n : Nat} (h : m ≤ n) : (List.length (digs m)) ≤ (List.length (digs n)) := d_nw_le (Nat.lt_of_le_of_lt h (d_nw_lt n))
/-- the i-th word -/
def dg (n i : Nat) : Nat := n / D ^ i % D
theorem d_dig_lt (n i : Nat) : dg n i < D := Nat.mod_lt _ (by decide)
theorem d_getD_words (n i : Nat) : (digs n).getD i 0 = dg n i := by
  induction i generalizing n with
  | zero =>
    by_cases h : n = 0
    · subst h; rw [d_words_zero]; simp [dg]
    · rw [d_words_pos h]; simp [dg]
  | succ i ih =>
    by_cases h : n = 0
    · subst h; rw [d_words_zero]; simp [dg]
    · rw [d_words_pos h, List.getD_cons_succ, ih, dg, dg, Nat.div_div_eq_div_mul, Nat.pow_succ, Nat.mul_comm D]
theorem d_getD_val {xs : List Nat} (h : OkD xs) (i : Nat) : xs.getD i 0 = dg (dval xs) i := by
  induction xs generalizing i with
  | nil => simp [dg, dval]
  | cons x xs ih =>
    have hx := h x (by simp)
    cases i with
    | zero => simp [dg, dval, Nat.mod_eq_of_lt hx]
    | succ i =>
      rw [List.getD_cons_succ, ih (fun y hy => h y (by simp [hy])), dg, dg, dval, Nat.pow_succ, Nat.mul_comm (D ^ i), ← Nat.div_div_eq_div_mul]
      rw [Nat.add_mul_div_left _ _ (by decide), Nat.div_eq_of_lt hx, Nat.zero_add]
theorem d_wordsN_succ (k n : Nat) : digsN (k + 1) n = digsN k n ++ [dg n k] := by
  induction k generalizing n with
  | zero => simp [digsN, dg]
  | succ k ih =>
    rw [digsN, ih, digsN, List.cons_append, dg, dg, Nat.div_div_eq_div_mul, Nat.pow_succ, Nat.mul_comm D]
theorem d_mod_succ (n k : Nat) : n % D ^ (k + 1) = n % D ^ k + D ^ k * dg n k := by
  rw [Nat.pow_succ, Nat.mod_mul, dg]
theorem d_words_wordsN (n : Nat) : digs n = digsN ((List.length (digs n))) n := d_eq_wordsN (d_words_ok n) rfl (by rw [d_val_words, Nat.mod_eq_of_lt (d_nw_lt n)])
theorem d_dig_zero {n i : Nat} (h : (List.length (digs n)) ≤ i) : dg n i = 0 := by
  rw [dg, Nat.div_eq_of_lt (Nat.lt_of_lt_of_le (d_nw_lt n) (Nat.pow_le_pow_right (by decide) h))]; rfl
/-- digs whose last one is no nought, or none -/
theorem d_words_of_take {xs : List Nat} {k : Nat} (h : OkD xs) (hk : k ≤ xs.length) (h0 : ∀ i, k ≤ i → xs.getD i 0 = 0) (ht : k = 0 ∨ xs.getD (k - 1) 0 ≠ 0) : xs.take k = digs (dval xs) := by
  have hv : dval xs < D ^ k := by
    clear ht
    induction xs generalizing k with
    | nil => simp [dval]; exact Nat.pow_pos (by decide)
    | cons x xs ih =>
      cases k with
      | zero =>
        have hx := h0 0 (Nat.le_refl _)
        simp at hx
        have := ih (fun y hy => h y (by simp [hy])) (Nat.zero_le _) (fun i _ => by simpa using h0 (i + 1) (by omega))
        simp at this
        simp [dval, hx, this]
      | succ k =>
        have := ih (fun y hy => h y (by simp [hy])) (by simpa using hk) (fun i hi => by simpa using h0 (i + 1) (by omega))
        have hx := h x (by simp)
        rw [dval, Nat.pow_succ, Nat.mul_comm (D ^ k)]
        have h3 : D * dval xs + D ≤ D * D ^ k := by rw [← Nat.mul_succ]; exact Nat.mul_le_mul_left _ this
        omega
  have hn : (List.length (digs (dval xs))) = k := by
    have h1 := d_nw_le hv
    rcases ht with rfl | ht
    · omega
    · rcases Nat.lt_or_ge ((List.length (digs (dval xs)))) k with h2 | h2
      · exfalso; apply ht; rw [d_getD_val h]; exact d_dig_zero (by omega)
      · omega
  have hok : OkD (xs.take k) := fun x hx => h x (List.mem_of_mem_take hx)
  have htv : dval (xs.take k) = dval xs := by
    have e := d_val_append (xs.take k) (xs.drop k)
    rw [List.take_append_drop] at e
    have hlen : (xs.take k).length = k := by simp; omega
    rw [hlen] at e
    have hd : dval (xs.drop k) = 0 := by
      rcases Nat.eq_zero_or_pos (dval (xs.drop k)) with h1 | h1
      · exact h1
      · have := Nat.le_mul_of_pos_right (D ^ k) h1; omega
    rw [hd] at e; omega
  rw [d_words_wordsN, hn]
  exact d_eq_wordsN hok (by simp; omega) (by rw [htv, Nat.mod_eq_of_lt hv])
theorem d_val_replicate (k : Nat) : dval (List.replicate k 0) = 0 := by
  induction k with
  | zero => rfl
  | succ k ih => rw [List.replicate_succ, dval, ih]; rfl
theorem d_cmp_start {m n : Nat} (h : (List.length (digs m)) = (List.length (digs n))) : m / D ^ (List.length (digs m)) = n / D ^ (List.length (digs m)) := by
  rw [Nat.div_eq_of_lt (d_nw_lt m), h, Nat.div_eq_of_lt (d_nw_lt n)]
theorem d_div_pow_succ (n k : Nat) (hk : 0 < k) : n / D ^ (k - 1) = D * (n / D ^ k) + dg n (k - 1) := by
  have e : D ^ k = D ^ (k - 1) * D := by rw [← Nat.pow_succ]; congr 1; omega
  rw [e, ← Nat.div_div_eq_div_mul, dg]
  exact (Nat.div_add_mod _ _).symm
theorem d_cmp_step {m n k : Nat} (hk : 0 < k) (h : m / D ^ k = n / D ^ k) (hd : (digs m).getD (k - 1) 0 = (digs n).getD (k - 1) 0) : m / D ^ (k - 1) = n / D ^ (k - 1) := by
  rw [d_getD_words, d_getD_words] at hd
  rw [d_div_pow_succ m k hk, d_div_pow_succ n k hk, h, hd]
theorem d_lt_of_div {m n k : Nat} (h : m / D ^ k < n / D ^ k) : m < n := by
  apply Classical.byContradiction; intro hc
  have := Nat.div_le_div_right (c := D ^ k) (Nat.le_of_not_lt hc); omega
theorem d_cmp_lt {m n k : Nat} (hk : 0 < k) (h : m / D ^ k = n / D ^ k) (hd : (digs m).getD (k - 1) 0 < (digs n).getD (k - 1) 0) : -1 = cmpN m n := by
  rw [d_getD_words, d_getD_words] at hd
  have : m < n := d_lt_of_div (k := k - 1) (by rw [d_div_pow_succ m k hk, d_div_pow_succ n k hk, h]; omega)
  unfold cmpN; rw [if_pos this]
theorem d_cmp_gt {m n k : Nat} (hk : 0 < k) (h : m / D ^ k = n / D ^ k) (hd : (digs n).getD (k - 1) 0 < (digs m).getD (k - 1) 0) : 1 = cmpN m n := by
  rw [d_getD_words, d_getD_words] at hd
  have : n < m := d_lt_of_div (k := k - 1) (by rw [d_div_pow_succ m k hk, d_div_pow_succ n k hk, h]; omega)
  unfold cmpN; rw [if_neg (by omega), if_pos this]
theorem d_cmp_eq {m n k : Nat} (h : m / D ^ k = n / D ^ k) (hk : k = 0) : 0 = cmpN m n := by
  subst hk; simp at h; subst h; simp [cmpN]
theorem d_lt_of_nw {m n : Nat} (h : (List.length (digs m)) < (List.length (digs n))) : m < n := by
  apply Classical.byContradiction; intro hc
  have := d_nw_mono (Nat.le_of_not_lt hc); omega
theorem d_cmp_len_lt {m n : Nat} (h : (List.length (digs m)) < (List.length (digs n))) : -1 = cmpN m n := by unfold cmpN; rw [if_pos (d_lt_of_nw h)]
theorem d_cmp_len_gt {m n : Nat} (h : (List.length (digs n)) < (List.length (digs m))) : 1 = cmpN m n := by have := d_lt_of_nw h; unfold cmpN; rw [if_neg (by omega), if_pos this]
theorem d_words_val_wordsN {N k : Nat} (h : N < D ^ k) : digs (dval (digsN k N)) = digs N := by rw [d_val_wordsN, Nat.mod_eq_of_lt h]
theorem d_pow_pos' (k : Nat) : 0 < D ^ k := Nat.pow_pos (by decide)
theorem d_pow_le_pow' {a b : Nat} (h : a ≤ b) : D ^ a ≤ D ^ b := Nat.pow_le_pow_right (by decide) h
theorem d_lt_pow_of {n k : Nat} (h : (List.length (digs n)) ≤ k) : n < D ^ k := Nat.lt_of_lt_of_le (d_nw_lt n) (d_pow_le_pow' h)
theorem d_div_succ (n i : Nat) : n / D ^ i = D * (n / D ^ (i + 1)) + dg n i := by
  have := d_div_pow_succ n (i + 1) (by omega); simpa using this
def dbor (p q i : Nat) : Nat := if p % D ^ i < q % D ^ i then 1 else 0
theorem d_bor_zero (p q : Nat) : 0 = dbor p q 0 := by simp [dbor, Nat.mod_one]
theorem d_bor_le (p q i : Nat) : dbor p q i ≤ 1 := by unfold dbor; split <;> omega
theorem d_bor_succ (p q i : Nat) : (if dg p i < dg q i + dbor p q i then 1 else 0) = dbor p q (i + 1) := by
  have h1 := d_mod_succ p i
  have h2 := d_mod_succ q i
  have h3 := Nat.mod_lt p (d_pow_pos' i)
  have h4 := Nat.mod_lt q (d_pow_pos' i)
  unfold dbor
  rw [h1, h2]
  generalize p % D ^ i = a at *
  generalize q % D ^ i = b at *
  generalize dg p i = x at *
  generalize dg q i = y at *
  generalize D ^ i = w at *
  rcases Nat.lt_trichotomy x y with h | h | h
  · have : w * x + w ≤ w * y := by rw [← Nat.mul_succ]; exact Nat.mul_le_mul_left _ h
    rw [if_pos (by omega), if_pos (by omega)]
  · subst h
    by_cases hab : a < b
    · rw [if_pos hab, if_pos (by omega), if_pos (by omega)]
    · rw [if_neg hab, if_neg (by omega), if_neg (by omega)]
  · have : w * y + w ≤ w * x := by rw [← Nat.mul_succ]; exact Nat.mul_le_mul_left _ h
    rw [if_neg (by split <;> omega), if_neg (by omega)]
theorem d_sub_eq {p q : Nat} (h : q ≤ p) (i : Nat) : (p - q) / D ^ i + q / D ^ i + dbor p q i = p / D ^ i := by
  have h1 := Nat.mod_add_div p (D ^ i)
  have h2 := Nat.mod_add_div q (D ^ i)
  have h3 := Nat.mod_lt p (d_pow_pos' i)
  have h4 := Nat.mod_lt q (d_pow_pos' i)
  have h5 := Nat.mod_add_div (p - q) (D ^ i)
  have h6 := Nat.mod_lt (p - q) (d_pow_pos' i)
  unfold dbor
  generalize p % D ^ i = a at *
  generalize q % D ^ i = b at *
  generalize (p - q) % D ^ i = c at *
  generalize p / D ^ i = x at *
  generalize q / D ^ i = y at *
  generalize (p - q) / D ^ i = z at *
  have hw := d_pow_pos' i
  generalize D ^ i = w at *
  have e : c + w * z + (b + w * y) = a + w * x := by omega
  have e2 : c + b + w * (z + y) = a + w * x := by rw [Nat.mul_add]; omega
  split
  · have hz : w * (z + y) < w * x := by
      apply Classical.byContradiction; intro hc
      have : c + b ≤ a := by omega
      omega
    have h7 : z + y < x := Nat.lt_of_mul_lt_mul_left hz
    have h8 : x ≤ z + y + 1 := by
      apply Classical.byContradiction; intro hc
      have : w * (z + y + 2) ≤ w * x := Nat.mul_le_mul_left _ (by omega)
      rw [Nat.mul_add] at this; omega
    omega
  · have h7 : z + y < x + 1 := by
      apply Nat.lt_of_mul_lt_mul_left (a := w); rw [Nat.mul_add w x]; omega
    have h8 : x < z + y + 1 := by
      apply Classical.byContradiction; intro hc
      have : w * (z + y + 1) ≤ w * x := Nat.mul_le_mul_left _ (by omega)
      rw [Nat.mul_add w (z + y)] at this
      omega
    omega
theorem d_sub_dig {p q : Nat} (h : q ≤ p) (i : Nat) : (dg p i + D - dg q i - dbor p q i) % D = dg (p - q) i := by
  have h1 := d_sub_eq h i
  have h2 := d_sub_eq h (i + 1)
  have h3 := d_div_succ p i
  have h4 := d_div_succ q i
  have h5 := d_div_succ (p - q) i
  have h6 := d_bor_succ p q i
  have h7 := d_dig_lt (p - q) i
  have h8 := d_dig_lt p i
  have h9 := d_dig_lt q i
  have := d_bor_le p q i
  generalize p / D ^ (i + 1) = a' at *
  generalize q / D ^ (i + 1) = b' at *
  generalize (p - q) / D ^ (i + 1) = s' at *
  generalize p / D ^ i = a at *
  generalize q / D ^ i = b at *
  generalize (p - q) / D ^ i = s at *
  generalize dbor p q i = e at *
  generalize dbor p q (i + 1) = e' at *
  unfold D at *
  split at h6 <;> omega
end Go.Nt
/- What the reference for naturals computes, digit by digit. No program here. -/
namespace Go.Nt
theorem one_digs : digs 1 = [1] := by rw [digs, dif_neg (by decide)]; simp [digs, D]
theorem D4 : W = D ^ 4 := by decide
theorem dval_lt4 : ∀ {xs : List Nat}, (∀ x ∈ xs, x ≤ 1099511627776) → dval xs + D ^ 4 ≤ D ^ (xs.length + 4)
  | [], _ => by simp [dval]
  | x :: xs, h => by
    have h1 := dval_lt4 (xs := xs) fun y hy => h y (by simp [hy])
    have h2 := h x (by simp)
    have e : D ^ ((x :: xs).length + 4) = D * D ^ (xs.length + 4) := by rw [List.length_cons, show xs.length + 1 + 4 = (xs.length + 4) + 1 by omega, Nat.pow_succ, Nat.mul_comm]
    rw [dval, e]
    have h3 : D * (dval xs + D ^ 4) ≤ D * D ^ (xs.length + 4) := Nat.mul_le_mul_left _ h1
    rw [Nat.mul_add] at h3
    have h4 : D * D ^ 4 = 1208925819614629174706176 := by decide
    have h5 : D ^ 4 = 18446744073709551616 := by decide
    omega
theorem drop_getD {xs : List Nat} {i : Nat} : dval (xs.drop i) = xs.getD i 0 + D * dval (xs.drop (i + 1)) := by
  rcases Nat.lt_or_ge i xs.length with h | h
  · rw [List.drop_eq_getElem_cons h, dval]; simp [List.getD, h]
  · rw [List.drop_eq_nil_of_le h, List.drop_eq_nil_of_le (by omega)]; simp [List.getD, h, dval]
/-- carrying: what is carried and what still stands is the number's upper part -/
theorem carry_step {ds : List Nat} {i c : Nat} (h : c + dval (ds.drop i) = dval ds / D ^ i) :
    (c + ds.getD i 0) % 65536 = dg (dval ds) i ∧ (c + ds.getD i 0) / 65536 + dval (ds.drop (i + 1)) = dval ds / D ^ (i + 1) := by
  rw [drop_getD, ← Nat.add_assoc] at h
  have e : dval ds / D ^ (i + 1) = dval ds / D ^ i / D := by rw [Nat.pow_succ, Nat.div_div_eq_div_mul]
  unfold dg
  rw [e, ← h]
  unfold D
  constructor <;> omega
theorem carry_zero {ds : List Nat} {i c : Nat} (h : c + dval (ds.drop i) = dval ds / D ^ i) (hd : ∀ x ∈ ds, x ≤ 1099511627776) (hc : ds.length + 4 ≤ i) : c = 0 := by
  have h1 := dval_lt4 hd
  have h2 : dval ds < D ^ i := by
    have : D ^ (ds.length + 4) ≤ D ^ i := Nat.pow_le_pow_right (by decide) hc
    have : 0 < D ^ 4 := by decide
    omega
  rw [Nat.div_eq_of_lt h2] at h
  omega
theorem carry_mu {ds : List Nat} {i c : Nat} (h : c + dval (ds.drop i) = dval ds / D ^ i) (hc : i < ds.length ∨ 0 < c) : dval ds / D ^ (i + 1) + (ds.length - (i + 1)) < dval ds / D ^ i + (ds.length - i) := by
  have e : dval ds / D ^ (i + 1) = dval ds / D ^ i / 65536 := by rw [Nat.pow_succ, Nat.div_div_eq_div_mul]
  rw [e]
  generalize dval ds / D ^ i = m at *
  rcases hc with hc | hc <;> omega
theorem carry_end {ds : List Nat} {i : Nat} (h : 0 + dval (ds.drop i) = dval ds / D ^ i) (hc : ds.length ≤ i) : digs (dval (digsN i (dval ds))) = digs (dval ds) := by
  rw [List.drop_eq_nil_of_le hc, dval, Nat.add_zero] at h
  apply d_words_val_wordsN
  have := Nat.div_add_mod (dval ds) (D ^ i)
  rw [← h, Nat.mul_zero, Nat.zero_add] at this
  rw [← this]; exact Nat.mod_lt _ (Nat.pow_pos (by decide))
theorem getD_le {xs : List Nat} {i b : Nat} (h : ∀ x ∈ xs, x ≤ b) : xs.getD i 0 ≤ b := by
  rcases Nat.lt_or_ge i xs.length with h1 | h1
  · rw [List.getD, List.getElem?_eq_getElem h1]; exact h _ (List.getElem_mem h1)
  · rw [List.getD, List.getElem?_eq_none h1]; exact Nat.zero_le _
/-- a word's digits -/
theorem dig_dg (n j k : Nat) (hk : k < 4) : dig n j / D ^ k % 65536 = dg n (4 * j + k) := by
  unfold dig dg
  rw [D4, ← Nat.pow_mul, Nat.pow_add, ← Nat.div_div_eq_div_mul]
  generalize n / D ^ (4 * j) = m
  unfold D
  match k, hk with
  | 0, _ => omega
  | 1, _ => omega
  | 2, _ => omega
  | 3, _ => omega
theorem from_end {xs : List Nat} {i : Nat} (h : Ok xs) (hi : i = xs.length) : digs (dval (digsN (4 * i) (val xs))) = digs (val xs) := by
  subst hi
  apply d_words_val_wordsN
  rw [Nat.pow_mul, ← D4]; exact val_lt h
theorem dig_div_lt (n j k : Nat) : dig n j / D ^ k < 18446744073709551616 := Nat.lt_of_le_of_lt (Nat.div_le_self _ _) (dig_lt n j)
/-- sums, digit by digit, uncarried -/
def addL (m n i : Nat) : List Nat := (List.range i).map fun k => dg m k + dg n k
theorem addL_len (m n i : Nat) : (addL m n i).length = i := by simp [addL]
theorem addL_succ (m n i : Nat) : addL m n (i + 1) = addL m n i ++ [dg m i + dg n i] := by simp [addL, List.range_succ]
theorem dval_addL (m n : Nat) : ∀ i, dval (addL m n i) = m % D ^ i + n % D ^ i
  | 0 => by simp [addL, dval, Nat.mod_one]
  | i + 1 => by
    rw [addL_succ, d_val_append, dval_addL m n i, addL_len, d_mod_succ, d_mod_succ]
    simp only [dval, Nat.mul_zero, Nat.add_zero, Nat.mul_add]; omega
theorem addL_le (m n i : Nat) : ∀ x ∈ addL m n i, x ≤ 1099511627776 := by
  intro x hx
  obtain ⟨k, _, rfl⟩ := List.mem_map.1 hx
  have := d_dig_lt m k
  have := d_dig_lt n k
  unfold D at *; omega
theorem addL_end {m n i : Nat} (hm : List.length (digs m) ≤ i) (hn : List.length (digs n) ≤ i) : digs (dval (addL m n i)) = digs (m + n) := by
  rw [dval_addL, Nat.mod_eq_of_lt (d_lt_pow_of hm), Nat.mod_eq_of_lt (d_lt_pow_of hn)]
theorem sub_end {m n i : Nat} (h : List.length (digs m) ≤ i) : digs (dval (digsN i (m - n))) = digs (m - n) :=
  d_words_val_wordsN (Nat.lt_of_le_of_lt (Nat.sub_le _ _) (d_lt_pow_of h))
theorem dbor_eq (m n i : Nat) : dbor m n (i + 1) = if dg m i < dg n i + dbor m n i then 1 else 0 := (d_bor_succ m n i).symm
/-! ### bits -/
theorem D_two : D = 2 ^ 16 := by decide
theorem bit_dg (n i : Nat) : dg n (i / 16) / 2 ^ (i % 16) % 2 = n / 2 ^ i % 2 := by
  unfold dg
  have e : 2 ^ i = D ^ (i / 16) * 2 ^ (i % 16) := by rw [D_two, ← Nat.pow_mul, ← Nat.pow_add]; congr 1; omega
  rw [e, ← Nat.div_div_eq_div_mul]
  generalize n / D ^ (i / 16) = m
  have h16 : i % 16 < 16 := Nat.mod_lt _ (by decide)
  generalize i % 16 = r at *
  unfold D
  have h2 : 65536 = 2 ^ r * 2 * 2 ^ (15 - r) := by
    rw [← Nat.pow_succ, ← Nat.pow_add, show r + 1 + (15 - r) = 16 by omega]
  rw [h2, ← Nat.mod_mul_right_div_self, ← Nat.mod_mul_right_div_self, Nat.mod_mul_right_mod]
/-- a bit more -/
theorem bit_step (a s : Nat) : a / 2 ^ s = 2 * (a / 2 ^ (s + 1)) + a / 2 ^ s % 2 := by
  rw [Nat.pow_succ, ← Nat.div_div_eq_div_mul]; omega
theorem dm_step {A b t : Nat} (hb : 0 < b) (ht : t ≤ 1) : (b ≤ 2 * (A % b) + t → (2 * A + t) / b = 2 * (A / b) + 1 ∧ (2 * A + t) % b = 2 * (A % b) + t - b) ∧
    (2 * (A % b) + t < b → (2 * A + t) / b = 2 * (A / b) ∧ (2 * A + t) % b = 2 * (A % b) + t) := by
  have e := Nat.div_add_mod A b
  have h := Nat.mod_lt A hb
  generalize A / b = q at *
  generalize A % b = r at *
  subst e
  constructor
  · intro h1
    have e2 : 2 * (b * q + r) + t = (2 * r + t - b) + b * (2 * q + 1) := by rw [Nat.mul_add b, Nat.mul_left_comm b]; omega
    rw [e2, Nat.add_mul_div_left _ _ hb, Nat.add_mul_mod_self_left, Nat.div_eq_of_lt (by omega), Nat.mod_eq_of_lt (by omega)]
    omega
  · intro h1
    have e2 : 2 * (b * q + r) + t = (2 * r + t) + b * (2 * q) := by rw [Nat.mul_left_comm b]; omega
    rw [e2, Nat.add_mul_div_left _ _ hb, Nat.add_mul_mod_self_left, Nat.div_eq_of_lt h1, Nat.mod_eq_of_lt h1]
    omega
theorem nd_double {x y : Nat} (h : x ≤ 2 * y + 1) : List.length (digs x) ≤ List.length (digs y) + 1 := by
  apply d_nw_le
  have := d_nw_lt y
  rw [Nat.pow_succ]
  have : 2 * D ^ (List.length (digs y)) ≤ D ^ (List.length (digs y)) * D := by rw [Nat.mul_comm]; exact Nat.mul_le_mul_left _ (by decide)
  omega
theorem dm_top (a : Nat) : a / 2 ^ (16 * List.length (digs a)) = 0 := by
  rw [Nat.div_eq_of_lt]
  rw [Nat.pow_mul, ← D_two]; exact d_nw_lt a
end Go.Nt
/- Whole numbers as a sign and words. No program here. -/
namespace Go.Nt
/-- the number of a sign and words -/
def zv (n : Bool) (xs : List Nat) : Int := if n = true then -(val xs : Int) else (val xs : Int)
theorem zv_nf (z : Int) : zv (decide (z < 0)) (words z.natAbs) = z := by
  unfold zv
  rw [val_words]
  by_cases h : z < 0
  · rw [decide_eq_true h, if_pos rfl]; omega
  · rw [decide_eq_false h, if_neg (by decide)]; omega
theorem zv_abs (n : Bool) (xs : List Nat) : (zv n xs).natAbs = val xs := by unfold zv; split <;> omega
theorem zv_neg (n : Bool) (xs : List Nat) : decide (zv n xs < 0) = (n && decide (val xs ≠ 0)) := by
  unfold zv
  cases n
  · rw [if_neg (by decide), Bool.false_and]; exact decide_eq_false (by omega)
  · rw [if_pos rfl, Bool.true_and]; exact decide_eq_decide.2 (by omega)
theorem zv_nw (n : Bool) (xs : List Nat) : (List.length (words (zv n xs).natAbs)) = (List.length (words (val xs))) := by rw [zv_abs]
theorem zv_false (xs : List Nat) : zv false xs = (val xs : Int) := by unfold zv; rw [if_neg (by decide)]
theorem zv_not (n : Bool) (xs : List Nat) : zv (!n) xs = - zv n xs := by
  unfold zv; cases n <;> simp
/-- the sign -/
def sgn (z : Int) : Int := if z = 0 then 0 else if z < 0 then -1 else 1
def cmpZ (x y : Int) : Int := if x < y then -1 else if y < x then 1 else 0
theorem zv_add_same {m n : Bool} (h : m = n) (xs ys : List Nat) : zv m xs + zv n ys = zv m (words (val xs + val ys)) := by
  subst h; unfold zv; rw [val_words]; cases m <;> simp <;> omega
theorem zv_add_sub {m n : Bool} (h : m ≠ n) {xs ys : List Nat} (hle : val ys ≤ val xs) : zv m xs + zv n ys = zv m (words (val xs - val ys)) := by
  unfold zv; rw [val_words]; cases m <;> cases n <;> simp at h ⊢ <;> omega
theorem zv_mul (m n : Bool) (xs ys : List Nat) : zv m xs * zv n ys = zv (!(m == n)) (words (val xs * val ys)) := by
  unfold zv; rw [val_words]; cases m <;> cases n <;> simp [Int.neg_mul, Int.mul_neg]
theorem zv_tdiv (m n : Bool) (xs ys : List Nat) : (zv m xs).tdiv (zv n ys) = zv (!(m == n)) (words (val xs / val ys)) := by
  have h : ((val xs : Int)).tdiv (val ys : Int) = ((val xs / val ys : Nat) : Int) := Int.ofNat_tdiv _ _ ▸ rfl
  unfold zv; rw [val_words]; cases m <;> cases n <;> simp [Int.neg_tdiv, Int.tdiv_neg, h]
theorem zv_tmod (m n : Bool) (xs ys : List Nat) : (zv m xs).tmod (zv n ys) = zv m (words (val xs % val ys)) := by
  have h : ((val xs : Int)).tmod (val ys : Int) = ((val xs % val ys : Nat) : Int) := Int.ofNat_tmod _ _ ▸ rfl
  unfold zv; rw [val_words]; cases m <;> cases n <;> simp [Int.neg_tmod, Int.tmod_neg, h]
end Go.Nt
/- Whole numbers: sizes, rests, the greatest common divisor with what makes it. No program here. -/
namespace Go.Nt
theorem nw_add_le (a b : Nat) : (List.length (words (a + b))) ≤ max ((List.length (words a))) ((List.length (words b))) + 1 := nw_le (add_lt (lt_pow_of (Nat.le_max_left _ _)) (lt_pow_of (Nat.le_max_right _ _)))
theorem nw_mul_le (a b : Nat) : (List.length (words (a * b))) ≤ (List.length (words a)) + (List.length (words b)) := nw_le (by rw [Nat.pow_add]; exact Nat.mul_lt_mul_of_lt_of_lt (nw_lt a) (nw_lt b))
theorem nz_add (x y : Int) : (List.length (words (x + y).natAbs)) ≤ max ((List.length (words x.natAbs))) ((List.length (words y.natAbs))) + 1 := Nat.le_trans (nw_mono (Int.natAbs_add_le x y)) (nw_add_le _ _)
theorem nz_sub (x y : Int) : (List.length (words (x - y).natAbs)) ≤ max ((List.length (words x.natAbs))) ((List.length (words y.natAbs))) + 1 := by
  have := nz_add x (-y); rwa [Int.natAbs_neg, ← Int.sub_eq_add_neg] at this
theorem nz_mul (x y : Int) : (List.length (words (x * y).natAbs)) ≤ (List.length (words x.natAbs)) + (List.length (words y.natAbs)) := by rw [Int.natAbs_mul]; exact nw_mul_le _ _
theorem nz_tdiv (x y : Int) : (List.length (words (x.tdiv y).natAbs)) ≤ (List.length (words x.natAbs)) := by rw [Int.natAbs_tdiv]; exact nw_mono (Nat.div_le_self _ _)
theorem nz_tmod (x y : Int) : (List.length (words (x.tmod y).natAbs)) ≤ (List.length (words x.natAbs)) := by rw [Int.natAbs_tmod]; exact nw_mono (Nat.mod_le _ _)
theorem nz_le {x y : Int} (h0 : 0 ≤ x) (h : x ≤ y) : (List.length (words x.natAbs)) ≤ (List.length (words y.natAbs)) := nw_mono (by omega)
theorem nw_one : (List.length (words 1)) = 1 := by rw [words_small (by decide)]; rfl
theorem nw_small' {n : Nat} (h : n < 18446744073709551616) : (List.length (words n)) ≤ 1 := nw_le (by simpa using h)
/-! ### rests from 0 on -/
theorem tmod_cases (a b : Int) : (0 ≤ a.tmod b → a.tdiv b = a / b ∧ a.tmod b = a % b) ∧
    (a.tmod b < 0 → (0 < b → a.tdiv b - 1 = a / b ∧ a.tmod b + b = a % b) ∧ (b < 0 → a.tdiv b + 1 = a / b ∧ a.tmod b - b = a % b)) := by
  rcases Int.lt_trichotomy b 0 with hb | hb | hb
  · have h1 := Int.emod_nonneg a (show b ≠ 0 by omega)
    have h3 := Int.emod_lt_of_pos a (show 0 < -b by omega)
    rw [Int.emod_neg] at h3
    have h4 := Int.tmod_eq_emod (a := a) (b := b)
    have h5 := Int.tdiv_eq_ediv (a := a) (b := b)
    have h6 := Int.sign_eq_neg_one_of_neg hb
    split at h4
    · rename_i h; rw [if_pos h] at h5; refine ⟨fun _ => ⟨by omega, by omega⟩, fun h7 => ⟨fun h8 => by omega, fun _ => by omega⟩⟩
    · rename_i h; rw [if_neg h, h6] at h5
      refine ⟨fun h7 => ?_, fun h7 => ⟨fun h8 => by omega, fun _ => by omega⟩⟩
      omega
  · subst hb; simp
  · have h1 := Int.emod_nonneg a (show b ≠ 0 by omega)
    have h3 := Int.emod_lt_of_pos a hb
    have h4 := Int.tmod_eq_emod (a := a) (b := b)
    have h5 := Int.tdiv_eq_ediv (a := a) (b := b)
    have h6 := Int.sign_eq_one_of_pos hb
    split at h4
    · rename_i h; rw [if_pos h] at h5; refine ⟨fun _ => ⟨by omega, by omega⟩, fun h7 => ⟨fun h8 => by omega, fun _ => by omega⟩⟩
    · rename_i h; rw [if_neg h, h6] at h5
      refine ⟨fun h7 => ?_, fun h7 => ⟨fun h8 => by omega, fun _ => by omega⟩⟩
      omega
/-! ### the greatest common divisor -/
def cof (a b x next : Int) : Int × Int := if h : b = 0 then (if a < 0 then (-a, -x) else (a, x)) else cof b (a.tmod b) next (x - a.tdiv b * next)
termination_by b.natAbs
decreasing_by
  rw [Int.natAbs_tmod]; exact Nat.mod_lt _ (by omega)
theorem cof_zero (a x next : Int) : cof a 0 x next = if a < 0 then (-a, -x) else (a, x) := by rw [cof, dif_pos rfl]
theorem cof_step {b : Int} (h : b ≠ 0) (a x next : Int) : cof a b x next = cof b (a.tmod b) next (x - a.tdiv b * next) := by rw [cof, dif_neg h]
/-- what stays true on the way, of two numbers that it began with -/
structure Cf (A B a b x next : Int) (X Y : Nat) : Prop where
  g : Nat.gcd a.natAbs b.natAbs = Nat.gcd A.natAbs B.natAbs
  d1 : B ∣ a - x * A
  d2 : B ∣ b - next * A
  x : x.natAbs ≤ X
  y : next.natAbs ≤ Y
  s : Y * a.natAbs + X * b.natAbs = B.natAbs
  X1 : X ≤ max 1 B.natAbs
  Y1 : Y ≤ B.natAbs
  a1 : a.natAbs ≤ max A.natAbs B.natAbs
  b1 : b.natAbs ≤ B.natAbs
theorem Cf.start (A B : Int) : Cf A B A B 1 0 1 0 := by
  refine ⟨rfl, ?_, ?_, by decide, by decide, by omega, Nat.le_max_left _ _, Nat.zero_le _, Nat.le_max_left _ _, Nat.le_refl _⟩
  · rw [Int.one_mul, Int.sub_self]; exact Int.dvd_zero _
  · rw [Int.zero_mul, Int.sub_zero]; exact Int.dvd_refl _
theorem Cf.step {A B a b x next : Int} {X Y : Nat} (c : Cf A B a b x next X Y) (h : b ≠ 0) : Cf A B b (a.tmod b) next (x - a.tdiv b * next) Y (X + (a.tdiv b).natAbs * Y) := by
  have e1 := Int.tmod_add_mul_tdiv a b
  have e2 : a.natAbs = (a.tdiv b).natAbs * b.natAbs + (a.tmod b).natAbs := by
    rw [Int.natAbs_tdiv, Int.natAbs_tmod, Nat.mul_comm]; exact (Nat.div_add_mod _ _).symm
  have hb : 0 < b.natAbs := by omega
  have hs : (X + (a.tdiv b).natAbs * Y) * b.natAbs + Y * (a.tmod b).natAbs = B.natAbs := by
    rw [← c.s, e2, Nat.add_mul, Nat.mul_add, Nat.mul_right_comm, Nat.mul_comm Y ((a.tdiv b).natAbs * b.natAbs)]
    omega
  refine ⟨?_, c.d2, ?_, c.y, ?_, hs, Nat.le_trans c.Y1 (Nat.le_max_right _ _), ?_, Nat.le_trans c.b1 (Nat.le_max_right _ _), ?_⟩
  · rw [← c.g, Int.natAbs_tmod, Nat.gcd_comm a.natAbs, Nat.gcd_rec b.natAbs a.natAbs, Nat.gcd_comm]
  · have e3 : a.tmod b - (x - a.tdiv b * next) * A = (a - x * A) - a.tdiv b * (b - next * A) := by
      rw [Int.sub_mul, Int.mul_sub, Int.mul_assoc, Int.mul_comm (a.tdiv b) b]; omega
    rw [e3]; exact Int.dvd_sub c.d1 (Int.dvd_mul_of_dvd_right c.d2)
  · refine Nat.le_trans (Int.natAbs_sub_le _ _) ?_
    rw [Int.natAbs_mul]
    exact Nat.add_le_add c.x (Nat.mul_le_mul_left _ c.y)
  · have h1 := Nat.le_mul_of_pos_right (X + (a.tdiv b).natAbs * Y) hb
    omega
  · rw [Int.natAbs_tmod]; exact Nat.le_trans (Nat.le_of_lt (Nat.mod_lt _ hb)) c.b1
theorem Cf.fin {A B a x next : Int} {X Y : Nat} (c : Cf A B a 0 x next X Y) : (cof a 0 x next).1 = (Nat.gcd A.natAbs B.natAbs : Nat) ∧ B ∣ (cof a 0 x next).1 - (cof a 0 x next).2 * A ∧ (cof a 0 x next).2.natAbs ≤ max 1 B.natAbs := by
  have hg := c.g
  rw [Int.natAbs_zero, Nat.gcd_zero_right] at hg
  have hx := Nat.le_trans c.x c.X1
  rw [cof_zero]
  by_cases h : a < 0
  · rw [if_pos h]
    refine ⟨by show -a = _; omega, ?_, by show (-x).natAbs ≤ _; rw [Int.natAbs_neg]; exact hx⟩
    show B ∣ -a - -x * A
    have : -a - -x * A = -(a - x * A) := by rw [Int.neg_mul]; omega
    rw [this]; exact Int.dvd_neg.2 c.d1
  · rw [if_neg h]
    exact ⟨by show a = _; omega, c.d1, hx⟩
theorem cof_all (A B : Int) : (cof A B 1 0).1 = (Nat.gcd A.natAbs B.natAbs : Nat) ∧ B ∣ (cof A B 1 0).1 - (cof A B 1 0).2 * A ∧ (cof A B 1 0).2.natAbs ≤ max 1 B.natAbs := by
  have key : ∀ (n : Nat) (a b x next : Int) (X Y : Nat), b.natAbs = n → Cf A B a b x next X Y → (cof a b x next).1 = (Nat.gcd A.natAbs B.natAbs : Nat) ∧ B ∣ (cof a b x next).1 - (cof a b x next).2 * A ∧ (cof a b x next).2.natAbs ≤ max 1 B.natAbs := by
    intro n
    induction n using Nat.strongRecOn with
    | _ n ih =>
      intro a b x next X Y hn c
      by_cases h : b = 0
      · subst h; exact c.fin
      · rw [cof_step h]
        refine ih (a.tmod b).natAbs ?_ _ _ _ _ _ _ rfl (c.step h)
        rw [Int.natAbs_tmod, ← hn]; exact Nat.mod_lt _ (by omega)
  exact key _ _ _ _ _ _ _ rfl (Cf.start A B)
end Go.Nt
/- Contracts: products of any size. -/
namespace Go.Proofs.Ytbnhdbchoghkfaa
open Go.En Go.RowKit
set_option linter.unusedVariables false
set_option maxRecDepth 10000
open Go.Nt
/-- words put up by a number of words -/
def upW (n : Nat) (xs : List Nat) : List Nat := if xs.length = 0 then [] else List.replicate n 0 ++ xs
theorem upW_nil {n : Nat} {xs : List Nat} (h : xs.length = 0) : [] = upW n xs := by unfold upW; rw [if_pos h]
theorem upW_app {n : Nat} {xs : List Nat} (h : xs.length ≠ 0) : List.replicate n 0 ++ xs = upW n xs := by unfold upW; rw [if_neg h]
theorem upW_val (n : Nat) (xs : List Nat) : val (upW n xs) = W ^ n * val xs := by
  unfold upW
  split
  · rename_i h; rw [List.eq_nil_of_length_eq_zero h]; rfl
  · rw [val_append, val_replicate, List.length_replicate, Nat.zero_add]
theorem upW_nw {n : Nat} {xs : List Nat} (h : Ok xs) : (List.length (words (val (upW n xs)))) ≤ n + xs.length := by
  rw [upW_val]
  refine nw_le ?_
  rw [Nat.pow_add]
  exact Nat.mul_lt_mul_of_pos_left (val_lt h) (pow_pos' n)
theorem ok_take {xs : List Nat} (h : Ok xs) (n : Nat) : Ok (xs.take n) := fun x hx => h x (List.mem_of_mem_take hx)
theorem ok_drop {xs : List Nat} (h : Ok xs) (n : Nat) : Ok (xs.drop n) := fun x hx => h x (List.mem_of_mem_drop hx)
theorem lowW_nw (a n : Nat) : (List.length (words (val ((words a).take n)))) ≤ min n ((List.length (words a))) := by
  have := nw_val (ok_take (words_ok a) n)
  rwa [List.length_take] at this
theorem highW_nw (a n : Nat) : (List.length (words (val ((words a).drop n)))) ≤ (List.length (words a)) - n := by
  have := nw_val (ok_drop (words_ok a) n)
  rwa [List.length_drop] at this
theorem halves (a n : Nat) : val ((words a).take n) + W ^ n * val ((words a).drop n) = a := by
  rcases Nat.lt_or_ge n (words a).length with h | h
  · have e := val_append ((words a).take n) ((words a).drop n)
    rw [List.take_append_drop, val_words, List.length_take, Nat.min_eq_left (Nat.le_of_lt h)] at e
    exact e.symm
  · rw [List.take_of_length_le h, List.drop_eq_nil_of_le h, val_words]; exact Nat.add_zero _
theorem kara (p q r s n : Nat) : p * r + W ^ n * ((p + q) * (r + s) - p * r - q * s) + W ^ (2 * n) * (q * s) = (p + W ^ n * q) * (r + W ^ n * s) := by
  have e : (p + q) * (r + s) - p * r - q * s = p * s + q * r := by
    rw [Nat.add_mul, Nat.mul_add, Nat.mul_add]; omega
  rw [e, Nat.two_mul, Nat.pow_add]
  generalize W ^ n = w
  simp only [Nat.add_mul, Nat.mul_add, Nat.mul_assoc, Nat.mul_left_comm, Nat.mul_comm, Nat.add_assoc, Nat.add_left_comm, Nat.add_comm]
set_option maxHeartbeats 4000000 in
theorem mul_low {xs : List Nat} {n : Nat} : Ctr Try.prog 53 [isWords xs, isI (n : Int)] (isWords (xs.take n)) := by
  refine Ctr.intro Try.func53 rfl (by kernel_rfl) Try.ntmps53 rfl fun w0 F0 => ?_
  refine Tri.cv (Cv.wk (.cons (t := 0) (Has.t rfl) (.cons (t := 1) (Has.t rfl) .nil))) ?_
  refine Tri.fact (Has.lenLt (Has.t (t := 0) rfl)) fun lt0 => ?_
  refine Tri.fact (Has.okW (Has.t (t := 0) rfl)) fun ok0 => ?_
  refine Tri.fact (Has.rngI (Has.t (t := 1) rfl)) fun lt1 => ?_
  refine Tri.seq fun K1 hK1 => ?_
  refine Tri.region ?_
  refine st (OK1.as (Has.cW (f := isU))) rfl ?_
  refine nl ?_
  refine At.thn (hK1 _ _ ?_); clear hK1
  refine Tri.seq fun K2 hK2 => ?_
  refine Tri.seq fun K3 hK3 => ?_
  refine Tri.region ?_
  refine st (OK1.mv (Has.t rfl)) rfl ?_
  refine st (OK1.len sl25 (Has.t rfl)) rfl ?_
  refine st (OK1.mv (Has.t rfl)) rfl ?_
  refine st (OK1.leI (Has.t rfl) (Has.t rfl)) rfl ?_
  refine nl ?_
  refine At.thn (hK3 _ _ ?_); clear hK3
  refine Tri.cond (Has.t rfl) (fun hc1 => ?_) (fun hc1 => ?_)
  · have hc1 := BP.t hc1
    refine Tri.seq fun K4 hK4 => ?_
    refine Tri.region ?_
    refine st (OK1.mv (Has.t rfl)) rfl ?_
    refine st (OK1.as (Has.t rfl)) rfl ?_
    refine nl ?_
    refine At.thn (hK4 _ _ ?_); clear hK4
    refine Tri.cv (Cv.wk (.cons (t := 0) (Has.t rfl) (.cons (t := 1) (Has.t rfl) (.cons (t := 4) (Has.t rfl) .nil)))) ?_
    refine Tri.ret ?_
    refine At.thr ?_
    refine rt1 (.inl rfl) Try.results53 rfl (.tmp (Has.t' rfl ?_) .nil)
    all_goals (exact SlM_eq (List.take_of_length_le (by omega)).symm)
  · have hc1 := BP.f hc1
    refine Tri.skip ?_
    refine At.thn (hK2 _ _ ?_); clear hK2
    refine Tri.seq fun K5 hK5 => ?_
    refine Tri.region ?_
    refine st (OK1.mv (Has.t rfl)) rfl ?_
    refine st (OK1.mv (Has.t rfl)) rfl ?_
    refine st (OK1.slHM sl25 ty62 (Has.t rfl) (Has.t rfl) ⟨by omega, by omega⟩) rfl ?_
    refine st (OK1.as (Has.t rfl)) rfl ?_
    refine nl ?_
    refine At.thn (hK5 _ _ ?_); clear hK5
    refine Tri.cv (Cv.wk (.cons (t := 4) (Has.t rfl) .nil)) ?_
    refine Tri.ret ?_
    refine rt1 (.inl rfl) Try.results53 rfl (.tmp (Has.t' rfl ?_) .nil)
    all_goals (exact SlM_eq (by rw [Int.toNat_natCast]))
set_option maxHeartbeats 4000000 in
theorem mul_high {xs : List Nat} {n : Nat} : Ctr Try.prog 54 [isWords xs, isI (n : Int)] (isWords (xs.drop n)) := by
  refine Ctr.intro Try.func54 rfl (by kernel_rfl) Try.ntmps54 rfl fun w0 F0 => ?_
  refine Tri.cv (Cv.wk (.cons (t := 0) (Has.t rfl) (.cons (t := 1) (Has.t rfl) .nil))) ?_
  refine Tri.fact (Has.lenLt (Has.t (t := 0) rfl)) fun lt0 => ?_
  refine Tri.fact (Has.okW (Has.t (t := 0) rfl)) fun ok0 => ?_
  refine Tri.fact (Has.rngI (Has.t (t := 1) rfl)) fun lt1 => ?_
  refine Tri.seq fun K1 hK1 => ?_
  refine Tri.region ?_
  refine st (OK1.as (Has.cW (f := isU))) rfl ?_
  refine nl ?_
  refine At.thn (hK1 _ _ ?_); clear hK1
  refine Tri.seq fun K2 hK2 => ?_
  refine Tri.seq fun K3 hK3 => ?_
  refine Tri.region ?_
  refine st (OK1.mv (Has.t rfl)) rfl ?_
  refine st (OK1.len sl25 (Has.t rfl)) rfl ?_
  refine st (OK1.mv (Has.t rfl)) rfl ?_
  refine st (OK1.leI (Has.t rfl) (Has.t rfl)) rfl ?_
  refine nl ?_
  refine At.thn (hK3 _ _ ?_); clear hK3
  refine Tri.cond (Has.t rfl) (fun hc1 => ?_) (fun hc1 => ?_)
  · have hc1 := BP.t hc1
    refine Tri.seq fun K4 hK4 => ?_
    refine Tri.region ?_
    refine st (OK1.as (Has.cW (f := isU))) rfl ?_
    refine nl ?_
    refine At.thn (hK4 _ _ ?_); clear hK4
    refine Tri.ret ?_
    refine At.thr ?_
    refine rt1 (.inl rfl) Try.results54 rfl (.tmp (Has.t' rfl ?_) .nil)
    all_goals (exact SlM_eq (List.drop_eq_nil_of_le (by omega)).symm)
  · have hc1 := BP.f hc1
    refine Tri.skip ?_
    refine At.thn (hK2 _ _ ?_); clear hK2
    refine Tri.seq fun K5 hK5 => ?_
    refine Tri.region ?_
    refine st (OK1.mv (Has.t rfl)) rfl ?_
    refine st (OK1.mv (Has.t rfl)) rfl ?_
    refine st (OK1.slLM sl25 ty62 (Has.t rfl) (Has.t rfl) ⟨by omega, by omega⟩) rfl ?_
    refine st (OK1.as (Has.t rfl)) rfl ?_
    refine nl ?_
    refine At.thn (hK5 _ _ ?_); clear hK5
    refine Tri.cv (Cv.wk (.cons (t := 4) (Has.t rfl) .nil)) ?_
    refine Tri.ret ?_
    refine rt1 (.inl rfl) Try.results54 rfl (.tmp (Has.t' rfl ?_) .nil)
    all_goals (exact SlM_eq (by rw [Int.toNat_natCast]))
set_option maxHeartbeats 4000000 in
theorem mul_less {xs ys : List Nat} (hx : (List.length (words (val xs))) < 4294967296) : Ctr Try.prog 55 [isWords xs, isWords ys] (isWords (words (val xs - val ys))) := by
  refine Ctr.intro Try.func55 rfl (by kernel_rfl) Try.ntmps55 rfl fun w0 F0 => ?_
  refine Tri.cv (Cv.wk (.cons (t := 0) (Has.t rfl) (.cons (t := 1) (Has.t rfl) .nil))) ?_
  refine Tri.fact (Has.lenLt (Has.t (t := 0) rfl)) fun lt0 => ?_
  refine Tri.fact (Has.okW (Has.t (t := 0) rfl)) fun ok0 => ?_
  refine Tri.fact (Has.lenLt (Has.t (t := 1) rfl)) fun lt1 => ?_
  refine Tri.fact (Has.okW (Has.t (t := 1) rfl)) fun ok1 => ?_
  refine Tri.seq fun K1 hK1 => ?_
  refine Tri.region ?_
  refine st (OK1.as (Has.cW (f := isU))) rfl ?_
  refine nl ?_
  refine At.thn (hK1 _ _ ?_); clear hK1
  refine Tri.seq fun K2 hK2 => ?_
  refine Tri.region ?_
  refine st (OK1.mv (Has.t rfl)) rfl ?_
  refine st (OK1.mv (Has.t rfl)) rfl ?_
  refine st (OK1.call (nat_Sub (by with_reducible assumption)) (.cons (Has.t rfl) (.cons (Has.t rfl) .nil))) rfl ?_
  refine st (OK1.mv (Has.t rfl)) rfl ?_
  refine st (OK1.ext (Has.t rfl) rfl) rfl ?_
  refine st (OK1.ext (Has.t rfl) rfl) rfl ?_
  refine st (OK1.as (Has.t rfl)) rfl ?_
  refine st (OK1.as (Has.t rfl)) rfl ?_
  refine nl ?_
  refine At.thn (hK2 _ _ ?_); clear hK2
  refine Tri.cv (Cv.wk (.cons (t := 4) (Has.t rfl) (.cons (t := 5) (Has.t rfl) .nil))) ?_
  refine Tri.seq fun K3 hK3 => ?_
  refine Tri.region ?_
  refine st (OK1.mv (Has.t rfl)) rfl ?_
  refine st (OK1.as (Has.t rfl)) rfl ?_
  refine nl ?_
  refine At.thn (hK3 _ _ ?_); clear hK3
  refine Tri.ret ?_
  refine rt1 (.inl rfl) Try.results55 rfl (.tmp (Has.t' rfl ?_) .nil)
  all_goals (rfl)
set_option maxHeartbeats 4000000 in
theorem mul_up {xs : List Nat} {n : Nat} (hn : n + xs.length ≤ 4294967296) : Ctr Try.prog 79 [isWords xs, isI (n : Int)] (isWords (upW n xs)) := by
  refine Ctr.intro Try.func79 rfl (by kernel_rfl) Try.ntmps79 rfl fun w0 F0 => ?_
  refine Tri.cv (Cv.wk (.cons (t := 0) (Has.t rfl) (.cons (t := 1) (Has.t rfl) .nil))) ?_
  refine Tri.fact (Has.lenLt (Has.t (t := 0) rfl)) fun lt0 => ?_
  refine Tri.fact (Has.okW (Has.t (t := 0) rfl)) fun ok0 => ?_
  refine Tri.fact (Has.rngI (Has.t (t := 1) rfl)) fun lt1 => ?_
  refine Tri.seq fun K1 hK1 => ?_
  refine Tri.region ?_
  refine st (OK1.as (Has.cW (f := isU))) rfl ?_
  refine nl ?_
  refine At.thn (hK1 _ _ ?_); clear hK1
  refine Tri.seq fun K2 hK2 => ?_
  refine Tri.seq fun K3 hK3 => ?_
  refine Tri.region ?_
  refine st (OK1.mv (Has.t rfl)) rfl ?_
  refine st (OK1.len sl25 (Has.t rfl)) rfl ?_
  refine st (OK1.eqI (Has.t rfl) (Has.cI 0 rfl)) rfl ?_
  refine nl ?_
  refine At.thn (hK3 _ _ ?_); clear hK3
  refine Tri.cond (Has.t rfl) (fun hc1 => ?_) (fun hc1 => ?_)
  · have hc1 := BP.t hc1
    refine Tri.seq fun K4 hK4 => ?_
    refine Tri.region ?_
    refine st (OK1.as (Has.cW (f := isU))) rfl ?_
    refine nl ?_
    refine At.thn (hK4 _ _ ?_); clear hK4
    refine Tri.ret ?_
    refine At.thr ?_
    refine rt1 (.inl rfl) Try.results79 rfl (.tmp (Has.t' rfl ?_) .nil)
    all_goals (exact SlM_eq (upW_nil (by omega)))
  · have hc1 := BP.f hc1
    refine Tri.skip ?_
    refine At.thn (hK2 _ _ ?_); clear hK2
    refine Tri.seq fun K5 hK5 => ?_
    refine Tri.region ?_
    refine st (OK1.mv (Has.t rfl)) rfl ?_
    refine st (OK1.mv (Has.t rfl)) rfl ?_
    refine st (OK1.mv (Has.t rfl)) rfl ?_
    refine st (OK1.len sl25 (Has.t rfl)) rfl ?_
    refine st (OK1.eq (OK1.addI (Has.t rfl) (Has.t rfl) (by omega) (by omega)) ((show isI _ = isI ((n + xs.length : Nat) : Int) from isI_eq (by omega)))) rfl ?_
    refine Ops.make (f := isU) (u := 0) (n := n) (c := n + xs.length) sl25 ty62 zero62 (fun _ _ => ⟨⟨rfl, by decide⟩, trivial⟩) by62 (Has.t' rfl rfl) (Has.t' rfl rfl) ⟨by omega, by omega⟩ rfl fun b1 => ?_
    refine st (OK1.mv (Has.t rfl)) rfl ?_
    refine Ops.cv (Cv.winGrM (f := isU) (t := 13) (i := 0) (ys := List.replicate n 0) rfl rfl (by simp) (by simp) (by simp)) ?_
    refine Ops.memEq (M' := [grM _ _ _]) rfl ?_
    refine Ops.appendG (f := isU) (u := 0) sl25 ty62 zero62 (fun _ _ => ⟨⟨rfl, by decide⟩, trivial⟩) (fun _ => inferInstance) by62 (Has.t rfl) (i := 0) rfl (Has.t rfl) (by rw [List.length_replicate]; exact hn) (by omega) rfl fun gr1 => ?_
    refine Ops.memEq (M' := [grM _ _ _]) rfl ?_
    refine Ops.cv (Cv.freezeGn (t := 15) (i := 0) (ys := List.replicate n 0 ++ xs) rfl rfl rfl (by simp)) ?_
    refine Ops.memEq (M' := []) rfl ?_
    refine Ops.cv (Cv.wk (.cons (t := 0) (Has.t rfl) (.cons (t := 1) (Has.t rfl) (.cons (t := 4) (Has.t rfl) (.cons (t := 5) (Has.t rfl) (.cons (t := 6) (Has.t rfl) (.cons (t := 7) (Has.t rfl) (.cons (t := 8) (Has.t rfl) (.cons (t := 9) (Has.t rfl) (.cons (t := 10) (Has.t rfl) (.cons (t := 11) (Has.t rfl) (.cons (t := 12) (Has.t rfl) (.cons (t := 14) (Has.t rfl) (.cons (t := 15) (Has.t rfl) .nil)))))))))))))) ?_
    refine st (OK1.as (Has.t rfl)) rfl ?_
    refine nl ?_
    refine At.thn (hK5 _ _ ?_); clear hK5
    refine Tri.cv (Cv.wk (.cons (t := 4) (Has.t rfl) .nil)) ?_
    refine Tri.ret ?_
    refine rt1 (.inl rfl) Try.results79 rfl (.tmp (Has.t' rfl ?_) .nil)
    all_goals (exact SlM_eq (upW_app (by omega)))
set_option maxHeartbeats 4000000 in
theorem mul_joined {xs ys zs : List Nat} {n : Nat} (hx : (List.length (words (val xs))) ≤ 2100000000) (hn : n ≤ 1000000000) (hy : ys.length ≤ 2000000000) (hz : zs.length ≤ 2000000000) : Ctr Try.prog 57 [isWords xs, isWords ys, isWords zs, isI (n : Int)] (isWords (words (val xs + W ^ n * val ys + W ^ (2 * n) * val zs))) := by
  refine Ctr.intro Try.func57 rfl (by kernel_rfl) Try.ntmps57 rfl fun w0 F0 => ?_
  refine Tri.cv (Cv.wk (.cons (t := 0) (Has.t rfl) (.cons (t := 1) (Has.t rfl) (.cons (t := 2) (Has.t rfl) (.cons (t := 3) (Has.t rfl) .nil))))) ?_
  refine Tri.fact (Has.lenLt (Has.t (t := 0) rfl)) fun lt0 => ?_
  refine Tri.fact (Has.okW (Has.t (t := 0) rfl)) fun ok0 => ?_
  refine Tri.fact (Has.lenLt (Has.t (t := 1) rfl)) fun lt1 => ?_
  refine Tri.fact (Has.okW (Has.t (t := 1) rfl)) fun ok1 => ?_
  refine Tri.fact (Has.lenLt (Has.t (t := 2) rfl)) fun lt2 => ?_
  refine Tri.fact (Has.okW (Has.t (t := 2) rfl)) fun ok2 => ?_
  refine Tri.fact (Has.rngI (Has.t (t := 3) rfl)) fun lt3 => ?_
  have u1 := upW_nw (n := n) ok1
  have u2 := upW_nw (n := 2 * n) ok2
  have h1 := nw_add_le (val xs) (val (upW n ys))
  refine Tri.seq fun K1 hK1 => ?_
  refine Tri.region ?_
  refine st (OK1.as (Has.cW (f := isU))) rfl ?_
  refine nl ?_
  refine At.thn (hK1 _ _ ?_); clear hK1
  refine Tri.seq fun K2 hK2 => ?_
  refine Tri.region ?_
  refine st (OK1.as (Has.fn (ι := { p : List Nat × Nat // p.2 + p.1.length ≤ 4294967296 }) (As := fun p => [isWords p.1.1, isI (p.1.2 : Int)]) (R := fun p => isWords (upW p.1.2 p.1.1)) (fun p => mul_up p.2))) rfl ?_
  refine nl ?_
  refine At.thn (hK2 _ _ ?_); clear hK2
  refine Tri.seq fun K3 hK3 => ?_
  refine Tri.region ?_
  refine st (OK1.mv (Has.t rfl)) rfl ?_
  refine st (OK1.mv (Has.t rfl)) rfl ?_
  refine st (OK1.mv (Has.t rfl)) rfl ?_
  refine st (OK1.mv (Has.t rfl)) rfl ?_
  refine st (OK1.callV ⟨(ys, n), by show n + ys.length ≤ _; omega⟩ (Has.t rfl) (.cons (Has.t rfl) (.cons (Has.t rfl) .nil))) rfl ?_
  refine st (OK1.call (nat_Add (by omega) (by simp only [val_words]; omega)) (.cons (Has.t rfl) (.cons (Has.t rfl) .nil))) rfl ?_
  refine st (OK1.mv (Has.t rfl)) rfl ?_
  refine st (OK1.mv (Has.t rfl)) rfl ?_
  refine st (OK1.mv (Has.t rfl)) rfl ?_
  refine st (OK1.eq (OK1.mulI (Has.cI 2 rfl) (Has.t rfl) (by omega) (by omega)) ((show isI _ = isI ((2 * n : Nat) : Int) from isI_eq (by omega)))) rfl ?_
  refine st (OK1.callV ⟨(zs, 2 * n), by show 2 * n + zs.length ≤ _; omega⟩ (Has.t rfl) (.cons (Has.t rfl) (.cons (Has.t rfl) .nil))) rfl ?_
  refine st (OK1.call (nat_Add (by simp only [val_words]; omega) (by simp only [val_words]; omega)) (.cons (Has.t rfl) (.cons (Has.t rfl) .nil))) rfl ?_
  refine st (OK1.as (Has.t rfl)) rfl ?_
  refine nl ?_
  refine At.thn (hK3 _ _ ?_); clear hK3
  refine Tri.cv (Cv.wk (.cons (t := 8) (Has.t rfl) .nil)) ?_
  refine Tri.ret ?_
  refine rt1 (.inl rfl) Try.results57 rfl (.tmp (Has.t' rfl ?_) .nil)
  all_goals (exact SlM_eq (by rw [val_words, upW_val, upW_val]))
set_option maxHeartbeats 4000000 in
theorem mul_MulStep {xs ys : List Nat} (hx : (List.length (words (val xs))) ≤ 1000000000) (hy : (List.length (words (val ys))) ≤ 1000000000) (IH : ∀ us vs : List Nat, max ((List.length (words (val us)))) ((List.length (words (val vs)))) < max ((List.length (words (val xs)))) ((List.length (words (val ys)))) → (List.length (words (val us))) ≤ 1000000000 → (List.length (words (val vs))) ≤ 1000000000 → Ctr Try.prog 30 [isWords us, isWords vs] (isWords (words (val us * val vs)))) : Ctr Try.prog 30 [isWords xs, isWords ys] (isWords (words (val xs * val ys))) := by
  refine Ctr.intro Try.func30 rfl (by kernel_rfl) Try.ntmps30 rfl fun w0 F0 => ?_
  refine Tri.cv (Cv.wk (.cons (t := 0) (Has.t rfl) (.cons (t := 1) (Has.t rfl) .nil))) ?_
  refine Tri.fact (Has.lenLt (Has.t (t := 0) rfl)) fun lt0 => ?_
  refine Tri.fact (Has.okW (Has.t (t := 0) rfl)) fun ok0 => ?_
  refine Tri.fact (Has.lenLt (Has.t (t := 1) rfl)) fun lt1 => ?_
  refine Tri.fact (Has.okW (Has.t (t := 1) rfl)) fun ok1 => ?_
  obtain ⟨N, hN⟩ : ∃ N, N = (max ((List.length (words (val xs)))) ((List.length (words (val ys)))) + 1) / 2 := ⟨_, rfl⟩
  have kp := lowW_nw (val xs) N
  have kq := highW_nw (val xs) N
  have kr := lowW_nw (val ys) N
  have ks := highW_nw (val ys) N
  have ka := nw_add_le (val ((words (val xs)).take N)) (val ((words (val xs)).drop N))
  have kb := nw_add_le (val ((words (val ys)).take N)) (val ((words (val ys)).drop N))
  have ea := halves (val xs) N
  have eb := halves (val ys) N
  obtain ⟨p, hp⟩ : ∃ p, p = (words (val xs)).take N := ⟨_, rfl⟩
  obtain ⟨q, hq⟩ : ∃ q, q = (words (val xs)).drop N := ⟨_, rfl⟩
  obtain ⟨r, hr⟩ : ∃ r, r = (words (val ys)).take N := ⟨_, rfl⟩
  obtain ⟨s, hs⟩ : ∃ s, s = (words (val ys)).drop N := ⟨_, rfl⟩
  rw [← hp] at kp ka ea
  rw [← hq] at kq ka ea
  rw [← hr] at kr kb eb
  rw [← hs] at ks kb eb
  have kpr := nw_mul_le (val p) (val r)
  have kqs := nw_mul_le (val q) (val s)
  have kc := nw_mul_le (val p + val q) (val r + val s)
  have kc2 := nw_mono (Nat.sub_le ((val p + val q) * (val r + val s)) (val p * val r))
  have kc3 := nw_mono (Nat.sub_le ((val p + val q) * (val r + val s) - val p * val r) (val q * val s))
  refine Tri.seq fun K1 hK1 => ?_
  refine Tri.region ?_
  refine st (OK1.as (Has.cW (f := isU))) rfl ?_
  refine nl ?_
  refine At.thn (hK1 _ _ ?_); clear hK1
  refine Tri.seq fun K2 hK2 => ?_
  refine Tri.region ?_
  refine st (OK1.mv (Has.t rfl)) rfl ?_
  refine st (OK1.eq (OK1.call (nat_Norm (by omega)) (.cons (Has.t rfl) .nil)) (by rfl)) rfl ?_
  refine st (OK1.mv (Has.t rfl)) rfl ?_
  refine st (OK1.eq (OK1.call (nat_Norm (by omega)) (.cons (Has.t rfl) .nil)) (by rfl)) rfl ?_
  refine st (OK1.as (Has.t rfl)) rfl ?_
  refine st (OK1.as (Has.t rfl)) rfl ?_
  refine nl ?_
  refine At.thn (hK2 _ _ ?_); clear hK2
  refine Tri.seq fun K3 hK3 => ?_
  refine Tri.seq fun K4 hK4 => ?_
  refine Tri.region ?_
  refine st (OK1.mv (Has.t rfl)) rfl ?_
  refine st (OK1.len sl25 (Has.t rfl)) rfl ?_
  refine st (OK1.mv (Has.t rfl)) rfl ?_
  refine st (OK1.len sl25 (Has.t rfl)) rfl ?_
  refine st (OK1.minI (Has.t rfl) (Has.t rfl)) rfl ?_
  refine st (OK1.leI (Has.t rfl) (Has.cI 8 rfl)) rfl ?_
  refine nl ?_
  refine At.thn (hK4 _ _ ?_); clear hK4
  refine Tri.cv (Cv.wk (.cons (t := 0) (Has.t rfl) (.cons (t := 1) (Has.t rfl) (.cons (t := 4) (Has.t rfl) (.cons (t := 22) (Has.t rfl) .nil))))) ?_
  refine Tri.cond (Has.t rfl) (fun hc1 => ?_) (fun hc1 => ?_)
  · have hc1 := BP.t hc1
    have HM : (List.length (words (val xs))) ≤ 8 ∨ (List.length (words (val ys))) ≤ 8 := (by revert hc1; split <;> intro hc1 <;> omega)
    refine Tri.seq fun K5 hK5 => ?_
    refine Tri.region ?_
    refine st (OK1.mv (Has.t rfl)) rfl ?_
    refine st (OK1.mv (Has.t rfl)) rfl ?_
    refine st (OK1.eq (OK1.call (nat_Mul (by simp only [val_words]; omega)) (.cons (Has.t rfl) (.cons (Has.t rfl) .nil))) (by simp only [val_words]; rfl)) rfl ?_
    refine st (OK1.as (Has.t rfl)) rfl ?_
    refine nl ?_
    refine At.thn (hK5 _ _ ?_); clear hK5
    refine Tri.ret ?_
    refine At.thr ?_
    refine rt1 (.inl rfl) Try.results30 rfl (.tmp (Has.t' rfl ?_) .nil)
    all_goals (rfl)
  · have hc1 := BP.f hc1
    have HM : 8 < (List.length (words (val xs))) ∧ 8 < (List.length (words (val ys))) := (by revert hc1; split <;> intro hc1 <;> omega)
    refine Tri.skip ?_
    refine At.thn (hK3 _ _ ?_); clear hK3
    refine Tri.seq fun K6 hK6 => ?_
    refine Tri.region ?_
    refine st (OK1.mv (Has.t rfl)) rfl ?_
    refine st (OK1.len sl25 (Has.t rfl)) rfl ?_
    refine st (OK1.mv (Has.t rfl)) rfl ?_
    refine st (OK1.len sl25 (Has.t rfl)) rfl ?_
    refine st (OK1.maxI (Has.t rfl) (Has.t rfl)) rfl ?_
    refine st (OK1.addI (Has.t rfl) (Has.cI 1 rfl) (by omega) (by omega)) rfl ?_
    refine st (OK1.eq (OK1.quoI (Has.t rfl) (Has.cI 2 rfl) (by omega) (by omega) (by omega)) ((show isI _ = isI (N : Int) from isI_eq (by rw [hN]; split <;> omega)))) rfl ?_
    refine st (OK1.as (Has.t rfl)) rfl ?_
    refine nl ?_
    refine At.thn (hK6 _ _ ?_); clear hK6
    refine Tri.cv (Cv.wk (.cons (t := 0) (Has.t rfl) (.cons (t := 1) (Has.t rfl) (.cons (t := 4) (Has.t rfl) (.cons (t := 5) (Has.t rfl) .nil))))) ?_
    refine Tri.seq fun K7 hK7 => ?_
    refine Tri.region ?_
    refine st (OK1.mv (Has.t rfl)) rfl ?_
    refine st (OK1.mv (Has.t rfl)) rfl ?_
    refine st (OK1.eq (OK1.call (mul_low) (.cons (Has.t rfl) (.cons (Has.t rfl) .nil))) ((show isWords ((words (val xs)).take N) = isWords p from SlM_eq hp.symm))) rfl ?_
    refine st (OK1.mv (Has.t rfl)) rfl ?_
    refine st (OK1.mv (Has.t rfl)) rfl ?_
    refine st (OK1.eq (OK1.call (mul_high) (.cons (Has.t rfl) (.cons (Has.t rfl) .nil))) ((show isWords ((words (val xs)).drop N) = isWords q from SlM_eq hq.symm))) rfl ?_
    refine st (OK1.mv (Has.t rfl)) rfl ?_
    refine st (OK1.mv (Has.t rfl)) rfl ?_
    refine st (OK1.eq (OK1.call (mul_low) (.cons (Has.t rfl) (.cons (Has.t rfl) .nil))) ((show isWords ((words (val ys)).take N) = isWords r from SlM_eq hr.symm))) rfl ?_
    refine st (OK1.mv (Has.t rfl)) rfl ?_
    refine st (OK1.mv (Has.t rfl)) rfl ?_
    refine st (OK1.eq (OK1.call (mul_high) (.cons (Has.t rfl) (.cons (Has.t rfl) .nil))) ((show isWords ((words (val ys)).drop N) = isWords s from SlM_eq hs.symm))) rfl ?_
    refine st (OK1.as (Has.t rfl)) rfl ?_
    refine st (OK1.as (Has.t rfl)) rfl ?_
    refine st (OK1.as (Has.t rfl)) rfl ?_
    refine st (OK1.as (Has.t rfl)) rfl ?_
    refine nl ?_
    refine At.thn (hK7 _ _ ?_); clear hK7
    refine Tri.cv (Cv.wk (.cons (t := 4) (Has.t rfl) (.cons (t := 5) (Has.t rfl) (.cons (t := 6) (Has.t rfl) (.cons (t := 7) (Has.t rfl) (.cons (t := 8) (Has.t rfl) (.cons (t := 9) (Has.t rfl) .nil))))))) ?_
    refine Tri.seq fun K8 hK8 => ?_
    refine Tri.region ?_
    refine st (OK1.mv (Has.t rfl)) rfl ?_
    refine st (OK1.mv (Has.t rfl)) rfl ?_
    refine st (OK1.call (IH _ _ (by omega) (by omega) (by omega)) (.cons (Has.t rfl) (.cons (Has.t rfl) .nil))) rfl ?_
    refine st (OK1.mv (Has.t rfl)) rfl ?_
    refine st (OK1.mv (Has.t rfl)) rfl ?_
    refine st (OK1.call (IH _ _ (by omega) (by omega) (by omega)) (.cons (Has.t rfl) (.cons (Has.t rfl) .nil))) rfl ?_
    refine st (OK1.as (Has.t rfl)) rfl ?_
    refine st (OK1.as (Has.t rfl)) rfl ?_
    refine nl ?_
    refine At.thn (hK8 _ _ ?_); clear hK8
    refine Tri.cv (Cv.wk (.cons (t := 4) (Has.t rfl) (.cons (t := 5) (Has.t rfl) (.cons (t := 6) (Has.t rfl) (.cons (t := 7) (Has.t rfl) (.cons (t := 8) (Has.t rfl) (.cons (t := 9) (Has.t rfl) (.cons (t := 10) (Has.t rfl) (.cons (t := 11) (Has.t rfl) .nil))))))))) ?_
    refine Tri.seq fun K9 hK9 => ?_
    refine Tri.region ?_
    refine st (OK1.mv (Has.t rfl)) rfl ?_
    refine st (OK1.mv (Has.t rfl)) rfl ?_
    refine st (OK1.eq (OK1.call (nat_Add (by omega) (by omega)) (.cons (Has.t rfl) (.cons (Has.t rfl) .nil))) ((show isWords (words (val p + val q)) = _ from rfl))) rfl ?_
    refine st (OK1.mv (Has.t rfl)) rfl ?_
    refine st (OK1.mv (Has.t rfl)) rfl ?_
    refine st (OK1.call (nat_Add (by omega) (by omega)) (.cons (Has.t rfl) (.cons (Has.t rfl) .nil))) rfl ?_
    refine st (OK1.eq (OK1.call (IH _ _ (by simp only [val_words]; omega) (by simp only [val_words]; omega) (by simp only [val_words]; omega)) (.cons (Has.t rfl) (.cons (Has.t rfl) .nil))) ((show isWords _ = isWords (words ((val p + val q) * (val r + val s))) from SlM_eq (by rw [val_words, val_words])))) rfl ?_
    refine st (OK1.mv (Has.t rfl)) rfl ?_
    refine st (OK1.eq (OK1.call (mul_less (by simp only [val_words]; omega)) (.cons (Has.t rfl) (.cons (Has.t rfl) .nil))) ((show isWords _ = isWords (words ((val p + val q) * (val r + val s) - val p * val r)) from SlM_eq (by rw [val_words, val_words])))) rfl ?_
    refine st (OK1.mv (Has.t rfl)) rfl ?_
    refine st (OK1.eq (OK1.call (mul_less (by simp only [val_words]; omega)) (.cons (Has.t rfl) (.cons (Has.t rfl) .nil))) ((show isWords _ = isWords (words ((val p + val q) * (val r + val s) - val p * val r - val q * val s)) from SlM_eq (by rw [val_words, val_words])))) rfl ?_
    refine st (OK1.as (Has.t rfl)) rfl ?_
    refine nl ?_
    refine At.thn (hK9 _ _ ?_); clear hK9
    refine Tri.cv (Cv.wk (.cons (t := 4) (Has.t rfl) (.cons (t := 5) (Has.t rfl) (.cons (t := 10) (Has.t rfl) (.cons (t := 11) (Has.t rfl) (.cons (t := 12) (Has.t rfl) .nil)))))) ?_
    refine Tri.seq fun K10 hK10 => ?_
    refine Tri.region ?_
    refine st (OK1.mv (Has.t rfl)) rfl ?_
    refine st (OK1.mv (Has.t rfl)) rfl ?_
    refine st (OK1.mv (Has.t rfl)) rfl ?_
    refine st (OK1.mv (Has.t rfl)) rfl ?_
    refine st (OK1.call (mul_joined (by simp only [val_words]; omega) (by omega) (by omega) (by omega)) (.cons (Has.t rfl) (.cons (Has.t rfl) (.cons (Has.t rfl) (.cons (Has.t rfl) .nil))))) rfl ?_
    refine st (OK1.as (Has.t rfl)) rfl ?_
    refine nl ?_
    refine At.thn (hK10 _ _ ?_); clear hK10
    refine Tri.cv (Cv.wk (.cons (t := 4) (Has.t rfl) .nil)) ?_
    refine Tri.ret ?_
    refine rt1 (.inl rfl) Try.results30 rfl (.tmp (Has.t' rfl ?_) .nil)
    all_goals (exact SlM_eq (by simp only [val_words]; rw [kara, ea, eb]))
theorem mul_Mul : ∀ {xs ys : List Nat}, (List.length (words (val xs))) ≤ 1000000000 → (List.length (words (val ys))) ≤ 1000000000 → Ctr Try.prog 30 [isWords xs, isWords ys] (isWords (words (val xs * val ys))) := by
  have h : ∀ N, ∀ xs ys : List Nat, max ((List.length (words (val xs)))) ((List.length (words (val ys)))) ≤ N → (List.length (words (val xs))) ≤ 1000000000 → (List.length (words (val ys))) ≤ 1000000000 → Ctr Try.prog 30 [isWords xs, isWords ys] (isWords (words (val xs * val ys))) := by
    intro N
    induction N with
    | zero => intro xs ys h hx hy; exact mul_MulStep hx hy (fun us vs hl => absurd hl (by omega))
    | succ N ih => intro xs ys h hx hy; exact mul_MulStep hx hy (fun us vs hl => ih us vs (by omega))
  intro xs ys hx hy
  exact h _ xs ys (Nat.le_refl _) hx hy
end Go.Proofs.Ytbnhdbchoghkfaa
/- Drawn regions in which stores into blocks of the call's own stand beside what reads others. -/
namespace Go.En
open Go.RowKit
set_option linter.unusedVariables false
section
variable {E : Env} {P : Program} {Γ : Ctx} {M : Mem} {ty : TypeId} {pos : String} {after : Array Edge} {gd : Option (Nat × Bool)} {d : Option Tmp}
  {ops : Array Oper} {Q : Exit → Act → World → Prop} {rest : List Oper}
theorem Sat.sub {M' : Mem} {a : Act} {w : World} {F : Blk} (s : Sat E Γ M a w F) (h : M'.Sublist M) : Sat E Γ M' a w F :=
  { s with mem := ⟨s.mem.apart.sublist h, fun b C hb => s.mem.each b C (h.subset hb)⟩ }
/-- a step that stores into one of the blocks -/
def StS (E : Env) (P : Program) (Δ : Ctx) (M : Mem) (o : Oper) (M' : Mem) : Prop := o.guard = none ∧ ∀ a w F, Sat E Δ M a w F → ∀ (K : Act → World → Prop) (Q : Exit → Act → World → Prop),
  (∀ w', (∀ b, F b → w'.heap[b]? = w.heap[b]?) → (∀ Γ'', Sat E Γ'' M a w F → Sat E Γ'' M' a w' F) → K a w') → o.wp P a w K Q
theorem StS.store {x y : Operand} {b off i n : Nat} {g : Bool} {T : TypeId} {Ss Ss1 : List VP} {S : VP} [sh : Shape S Ss1] [o1 : Ones Ss1] (hx : Has E Γ M x (isPtr b off)) (hy : Has E Γ M y S)
    (hM : M[i]? = some (some b, cellM Ss)) (hT : tyB P T = some (n, g)) (hn : Nat.beq Ss1.length n = true) (hl : Nat.ble (off + n) Ss.length = true) {Ss' : List VP} {M' : Mem} (hS : Ss.take off ++ Ss1 ++ Ss.drop (off + n) = Ss')
    (hM' : M.set i (some b, cellM Ss') = M') : StS E P Γ M ⟨none, .store T x y, ty, pos, after, none⟩ M' := by
  refine ⟨rfl, fun a w F s K Q hK => ?_⟩
  obtain ⟨o, hb, vs, T', rfl, hv⟩ := mem_at s hM
  have h1 : a.eval x = .pointer (some ⟨b, off, none⟩) := hx a w F s
  have hy' := sh.cells _ _ _ (hy a w F s)
  have hn' : Ss1.length = n := Nat.eq_of_beq_eq_true hn
  have hl' := Nat.le_of_ble_eq_true hl
  have e1 := hv.len
  have e2 := hy'.len
  have hcs : (a.eval y).cells.size = n := by rw [← Array.length_toList, ← e2, hn']
  unfold Oper.wp
  have hr : (execOp a.eval (⟨none, .store T x y, ty, pos, after, none⟩ : Oper)).run P w = .ok .skip (w.setRow b (vs.take off ++ (a.eval y).cells.toList ++ vs.drop (off + n)).toArray) := by
    have h2 := run_storeCells_at P b off T' (a.eval y).cells.toList 0 vs.toArray w hb (by simp; omega) (hy'.one o1.ones)
    simp only [Nat.add_zero, Array.length_toList, hcs] at h2
    simp only [execOp, h1, Instr.storeAt, Instr.sureAddr, storeVar, Sem.run_bind, Sem.run_pure, Result.andThen_ok, run_size hT, hcs]
    simp only [ne_eq, not_true_eq_false, if_false, h2, Result.andThen_ok]
  rw [hr]
  have hF : ∀ k, F k → (w.setRow b (vs.take off ++ (a.eval y).cells.toList ++ vs.drop (off + n)).toArray).heap[k]? = w.heap[k]? := fun k hk => setRow_ne _ _ _ _ (fun e => by
    subst e; exact (s.mem.each k _ (List.mem_of_getElem? hM)).2.2.1 hk)
  refine hK _ hF fun Γ'' s'' => ?_
  rw [← hM']
  refine s''.write hM rfl rfl rfl (setRow_size _ _ _) (fun k hk => setRow_ne _ _ _ _ hk) (setRow_heap _ _ _ _ _ _ hb) ⟨_, T', rfl, ?_⟩
  refine All2.mono hF (fun _ h => h) _ _ ?_
  rw [← hS]
  exact ((hv.take off).append hy').append (hv.drop _)
/-- step by step: Θ is what the slots written so far hold; what only reads is shown over a part of the memory -/
def DrH (E : Env) (P : Program) (id : Nat) (l : List Oper) (Γ : Ctx) (M Ms : Mem) (Q : Exit → Act → World → Prop) (i : Nat) (Θ : Ctx) : Prop :=
  ∀ Ss, Dr E P l Γ Ms i Ss → (∀ t S, look Θ t = some S → ∃ (j : Nat) (o : Oper), j < i ∧ l[j]? = some o ∧ o.dst = some t ∧ Ss[j]? = some S) → Tri E P (.region id l.toArray true) Γ M Q
def keepM : List Bool → Mem → Mem
  | true :: bs, m :: M => m :: keepM bs M
  | false :: bs, _ :: M => keepM bs M
  | _, _ => []
theorem Tri.drh {id : Nat} {l : List Oper} {Ms : Mem} (bs : List Bool) (e : keepM bs M = Ms) (h : DrH E P id l Γ M Ms Q 0 []) : Tri E P (.region id l.toArray true) Γ M Q := h [] .nil (fun t S ht => by simp [look] at ht)
theorem DrH.st {id i d : Nat} {l : List Oper} {Θ : Ctx} {S : VP} {o : Oper} {Ms : Mem} (ts : List Nat) (h1 : l[i]? = some o) (h2 : o.dst = some d) (h3 : Nat.blt d E.n = true)
    (h4 : behindB l i ts = true) (h5 : OKG E P l.toArray (keepc ts Θ ++ Γ) Ms o S) (k : DrH E P id l Γ M Ms Q (i + 1) ((d, S) :: Θ)) : DrH E P id l Γ M Ms Q i Θ := by
  intro Ss hD hΘ
  obtain ⟨hlen, _⟩ := hD.at
  refine k (Ss ++ [S]) (.snoc _ hD h1 h2 h3 (fun t S' ht => ?_) h5) (fun t S' ht => ?_)
  · rw [look_append] at ht
    cases hl : look (keepc ts Θ) t with
    | none => rw [hl] at ht; exact .inr (by simpa using ht)
    | some S'' =>
      rw [hl] at ht
      obtain rfl : S'' = S' := by simpa using ht
      obtain ⟨hm, hl2⟩ := look_keepc _ _ _ hl
      obtain ⟨j, oj, b0, b1, b2, b3⟩ := hΘ t S'' hl2
      refine .inl ⟨j, oj, ?_, b1, b2, b3⟩
      have := List.all_eq_true.1 h4 j (by simpa using b0)
      rw [b1] at this
      simp only [Option.bind_some, b2, Bool.or_eq_true] at this
      rcases this with h | h
      · exact h
      · have := List.all_eq_true.1 h t hm
        simp [Nat.beq_refl] at this
  · simp only [look] at ht
    cases hb : Nat.beq d t with
    | true =>
      rw [hb] at ht; simp at ht; subst ht
      obtain rfl := Nat.eq_of_beq_eq_true hb
      exact ⟨i, o, by omega, h1, h2, by rw [List.getElem?_append_right (by omega)]; simp [hlen]⟩
    | false =>
      rw [hb] at ht
      obtain ⟨j, oj, b0, b1, b2, b3⟩ := hΘ t S' ht
      exact ⟨j, oj, by omega, b1, b2, by rw [List.getElem?_append_left (by omega)]; exact b3⟩
/-- the stores, one by one -/
def chainB (l : List Oper) (n1 m : Nat) : Bool := (List.range m).all fun j => (((masks l [])[n1 + m]?).getD 0).testBit (n1 + j)
end
end Go.En
/- Drawn regions in which new blocks are made and filled beside what only reads. -/
namespace Go.En
open Go.RowKit
set_option linter.unusedVariables false
section
variable {E : Env} {P : Program} {Γ : Ctx} {M : Mem} {ty : TypeId} {pos : String} {after : Array Edge} {gd : Option (Nat × Bool)} {d : Option Tmp}
  {ops : Array Oper} {Q : Exit → Act → World → Prop} {rest : List Oper}
/-- a place that points to a block, once it is made -/
def isOP (o : Option Nat) : VP := .pure fun v => ∀ b, o = some b → v = .pointer (some ⟨b, 0, none⟩)
def gctx : List Nat → List (Option Nat) → Ctx
  | d :: ds, o :: B => (d, isOP o) :: gctx ds B
  | _, _ => []
def gmem : List MP → List (Option Nat) → Mem
  | C :: Cs, o :: B => (o, C) :: gmem Cs B
  | _, _ => []
theorem Has.op {t b : Nat} (h : look Γ t = some (isOP (some b))) : Has E Γ M (.tmp t) (isPtr b 0) := fun a w F s => s.slots t _ h b rfl
theorem look_gctx_at : ∀ (ds : List Nat) (B : List (Option Nat)) (t : Nat) (S : VP), look (gctx ds B) t = some S → ∃ (j : Nat) (o : Option Nat), ds[j]? = some t ∧ B[j]? = some o ∧ S = isOP o
  | [], B, t, S, h => by simp [gctx, look] at h
  | d :: ds, [], t, S, h => by simp [gctx, look] at h
  | d :: ds, o :: B, t, S, h => by
    simp only [gctx, look] at h
    cases hb : Nat.beq d t with
    | true => rw [hb] at h; simp at h; exact ⟨0, o, by simp [Nat.eq_of_beq_eq_true hb], rfl, h.symm⟩
    | false => rw [hb] at h; obtain ⟨j, o', h1, h2, h3⟩ := look_gctx_at ds B t S h; exact ⟨j + 1, o', by simpa using h1, by simpa using h2, h3⟩
theorem look_gctx (ds : List Nat) (B : List (Option Nat)) (t : Nat) (S : VP) (h : look (gctx ds B) t = some S) : ∃ j : Nat, ds[j]? = some t := by
  obtain ⟨j, o, h1, _⟩ := look_gctx_at ds B t S h; exact ⟨j, h1⟩
theorem look_gctx_set : ∀ (ds : List Nat) (B : List (Option Nat)) (j b : Nat) (t : Nat) (S : VP), look (gctx ds (B.set j (some b))) t = some S → (ds[j]? = some t ∧ S = isOP (some b)) ∨ look (gctx ds B) t = some S
  | [], B, j, b, t, S, h => by simp [gctx, look] at h
  | d :: ds, [], j, b, t, S, h => by simp [gctx, look] at h
  | d :: ds, o :: B, 0, b, t, S, h => by
    simp only [List.set_cons_zero, gctx, look] at h ⊢
    cases hb : Nat.beq d t with
    | true => rw [hb] at h; simp at h; exact .inl ⟨by simp [Nat.eq_of_beq_eq_true hb], h.symm⟩
    | false => rw [hb] at h; exact .inr h
  | d :: ds, o :: B, j + 1, b, t, S, h => by
    simp only [List.set_cons_succ, gctx, look] at h ⊢
    cases hb : Nat.beq d t with
    | true => rw [hb] at h; exact .inr h
    | false =>
      rw [hb] at h
      rcases look_gctx_set ds B j b t S h with h1 | h1
      · exact .inl ⟨by simpa using h1.1, h1.2⟩
      · exact .inr h1
theorem gmem_set : ∀ (Cs : List MP) (B : List (Option Nat)) (q b : Nat) {n : Nat} {M : Mem} {C : MP}, B.length = n → Cs.length = n → Cs[q]? = some C → q < n → (gmem Cs B ++ M).set q (some b, C) = gmem Cs (B.set q (some b)) ++ M
  | [], B, q, b, n, M, C, h1, h2, h3, h4 => by simp at h3
  | C0 :: Cs, [], q, b, n, M, C, h1, h2, h3, h4 => by simp at h1; omega
  | C0 :: Cs, o :: B, 0, b, n, M, C, h1, h2, h3, h4 => by simp at h3; subst h3; rfl
  | C0 :: Cs, o :: B, q + 1, b, n, M, C, h1, h2, h3, h4 => by
    obtain ⟨n, rfl⟩ : ∃ k, n = k + 1 := ⟨n - 1, by omega⟩
    have := gmem_set Cs B q b (n := n) (M := M) (C := C) (by simpa using h1) (by simpa using h2) (by simpa using h3) (by omega)
    simp only [gmem, List.cons_append, List.set_cons_succ, this]
theorem all_some : ∀ {B : List (Option Nat)}, (∀ (j : Nat) (o : Option Nat), B[j]? = some o → o ≠ none) → ∃ bs : List Nat, bs.length = B.length ∧ B = bs.map some
  | [], _ => ⟨[], rfl, rfl⟩
  | none :: B, h => absurd rfl (h 0 none rfl)
  | some b :: B, h => by
    obtain ⟨bs, h1, h2⟩ := all_some (B := B) fun j o hj => h (j + 1) o (by simpa using hj)
    exact ⟨b :: bs, by simp [h1], by rw [h2]; rfl⟩
/-- a block that is made: where, and that it is as it was made until it is stored into -/
structure AlAt (E : Env) (P : Program) (l : List Oper) (n0 n1 k : Nat) (ds : List Nat) (Cs : Nat → List MP) (j : Nat) : Prop where
  full : ∃ (d : Nat) (T : TypeId) (z : Value) (Zs : List VP) (ty : TypeId) (pos : String) (after : Array Edge), ds[j]? = some d ∧ l[n0 + j]? = some ⟨some d, .alloc T, ty, pos, after, none⟩ ∧ d < E.n ∧ zeroB P T = some z ∧ (∀ w F, All2 Zs w F z.cells.toList) ∧
    ∀ m, m ≤ k → (Cs m)[j]? = some (cellM Zs) ∨ ∃ m', m' < m ∧ (((masks l [])[n1 + m']?).getD 0).testBit (n0 + j) = true
theorem AlAt.ex {l : List Oper} {n0 n1 k : Nat} {ds : List Nat} {Cs : Nat → List MP} {j : Nat} (h : AlAt E P l n0 n1 k ds Cs j) : ∃ (d : Nat) (T : TypeId) (z : Value) (ty : TypeId) (pos : String) (after : Array Edge), ds[j]? = some d ∧ l[n0 + j]? = some ⟨some d, .alloc T, ty, pos, after, none⟩ ∧ True := by
  obtain ⟨d, T, z, Zs, ty, pos, after, q1, q2, _⟩ := h.full; exact ⟨d, T, z, ty, pos, after, q1, q2, trivial⟩
/-- the blocks that are made, one by one -/
inductive Als (E : Env) (P : Program) (l : List Oper) : Nat → List Nat → List (List VP) → Prop
  | nil {i : Nat} : Als E P l i [] []
  | cons {i d : Nat} {T : TypeId} {z : Value} {Zs : List VP} {ds : List Nat} {zs : List (List VP)} {ty : TypeId} {pos : String} {after : Array Edge} (h1 : l[i]? = some ⟨some d, .alloc T, ty, pos, after, none⟩) (h2 : Nat.blt d E.n = true)
      (h3 : zeroB P T = some z) (h4 : ∀ w F, All2 Zs w F z.cells.toList) (r : Als E P l (i + 1) ds zs) : Als E P l i (d :: ds) (Zs :: zs)
theorem Als.len {l : List Oper} : ∀ {i : Nat} {ds : List Nat} {zs : List (List VP)}, Als E P l i ds zs → zs.length = ds.length
  | _, _, _, .nil => rfl
  | _, _, _, .cons _ _ _ _ r => congrArg (· + 1) r.len
theorem Als.at {l : List Oper} : ∀ {i : Nat} {ds : List Nat} {zs : List (List VP)}, Als E P l i ds zs → ∀ q, q < ds.length → ∃ (d : Nat) (T : TypeId) (z : Value) (Zs : List VP) (ty : TypeId) (pos : String) (after : Array Edge), ds[q]? = some d ∧ l[i + q]? = some ⟨some d, .alloc T, ty, pos, after, none⟩ ∧ d < E.n ∧ zeroB P T = some z ∧ (∀ w F, All2 Zs w F z.cells.toList) ∧ zs[q]? = some Zs
  | _, _, _, .nil, q, h => by simp at h
  | i, _, _, .cons h1 h2 h3 h4 r, 0, _ => ⟨_, _, _, _, _, _, _, rfl, h1, by simpa [Nat.blt_eq] using h2, h3, h4, rfl⟩
  | i, _, _, .cons h1 h2 h3 h4 r, q + 1, h => by
    obtain ⟨d, T, z, Zs, ty, pos, after, a1, a2, a3, a4, a5, a6⟩ := r.at q (by simpa using h)
    exact ⟨d, T, z, Zs, ty, pos, after, by simpa using a1, by rw [show i + (q + 1) = i + 1 + q by omega]; exact a2, a3, a4, a5, by simpa using a6⟩
/-- the stores, one by one, beside blocks that are made -/
theorem look_left {A B : Ctx} {t : Nat} {S : VP} (h : look A t = some S) : look (A ++ B) t = some S := by rw [look_append, h]; rfl
theorem Has.up {Δ X : Ctx} {M' : Mem} {y : Operand} {S : VP} (h : Has E Δ [] y S) : Has E (Δ ++ X) M' y S := fun a w F s => h a w F ((s.wider fun t S ht => s.slots t S (look_left ht)).sub (List.nil_sublist _))
theorem gmem_at : ∀ (Cs : List MP) (B : List (Option Nat)) (q : Nat) {o : Option Nat} {C : MP} {M : Mem}, B[q]? = some o → Cs[q]? = some C → (gmem Cs B ++ M)[q]? = some (o, C)
  | [], B, q, o, C, M, h1, h2 => by simp at h2
  | C0 :: Cs, [], q, o, C, M, h1, h2 => by simp at h1
  | C0 :: Cs, o0 :: B, 0, o, C, M, h1, h2 => by simp at h1 h2; subst h1; subst h2; rfl
  | C0 :: Cs, o0 :: B, q + 1, o, C, M, h1, h2 => by
    have := gmem_at Cs B q (M := M) (by simpa using h1) (by simpa using h2)
    simpa [gmem] using this
theorem gmem_setC : ∀ (Cs : List MP) (B : List (Option Nat)) (q : Nat) {o : Option Nat} {C : MP} {M : Mem}, B[q]? = some o → (gmem Cs B ++ M).set q (o, C) = gmem (Cs.set q C) B ++ M ∨ Cs.length ≤ q
  | [], B, q, o, C, M, h1 => .inr (by simp)
  | C0 :: Cs, [], q, o, C, M, h1 => by simp at h1
  | C0 :: Cs, o0 :: B, 0, o, C, M, h1 => by simp at h1; subst h1; exact .inl rfl
  | C0 :: Cs, o0 :: B, q + 1, o, C, M, h1 => by
    rcases gmem_setC Cs B q (C := C) (M := M) (by simpa using h1) with h | h
    · exact .inl (by simp only [gmem, List.cons_append, List.set_cons_succ, h])
    · exact .inr (by simpa using h)
theorem look_gctx_of : ∀ (ds : List Nat) (B : List (Option Nat)) (q d : Nat) (o : Option Nat), (∀ i, i < q → ds[i]? ≠ some d) → ds[q]? = some d → B[q]? = some o → look (gctx ds B) d = some (isOP o)
  | [], B, q, d, o, h0, h1, h2 => by simp at h1
  | e :: ds, [], q, d, o, h0, h1, h2 => by simp at h2
  | e :: ds, o' :: B, 0, d, o, h0, h1, h2 => by simp at h1 h2; subst h1; subst h2; simp [gctx, look, nbeq_self]
  | e :: ds, o' :: B, q + 1, d, o, h0, h1, h2 => by
    have hne : Nat.beq e d = false := by
      cases hb : Nat.beq e d with
      | false => rfl
      | true => exact absurd (by simp [Nat.eq_of_beq_eq_true hb]) (h0 0 (by omega))
    simp only [gctx, look, hne]
    exact look_gctx_of ds B q d o (fun i hi => by simpa using h0 (i + 1) (by omega)) (by simpa using h1) (by simpa using h2)
/-- a store into a block that was there -/
theorem len1 {bs : List Nat} (h : bs.length = 1) : ∃ a, bs = [a] := by match bs, h with | [a], _ => exact ⟨a, rfl⟩
theorem len2 {bs : List Nat} (h : bs.length = 2) : ∃ a b, bs = [a, b] := by match bs, h with | [a, b], _ => exact ⟨a, b, rfl⟩
end
end Go.En
/- Drawn regions in which new blocks are made and filled, and slots set, beside what only reads. -/
namespace Go.En
open Go.RowKit
set_option linter.unusedVariables false
section
variable {E : Env} {P : Program} {Γ : Ctx} {M : Mem} {ty : TypeId} {pos : String} {after : Array Edge} {gd : Option (Nat × Bool)} {d : Option Tmp}
  {ops : Array Oper} {Q : Exit → Act → World → Prop} {rest : List Oper}
/-- a store of the row of stores: what it stands behind, and the new blocks that it needs -/
structure MidD2 (E : Env) (P : Program) (l : List Oper) (Γ : Ctx) (Ss : List VP) (n1 : Nat) (ds : List Nat) (m : Nat) (Cs : List MP) (M : Mem) (Cs' : List MP) (M' : Mem) : Prop where
  ex : ∃ (o : Oper) (Δ : Ctx) (req : List Nat), l[n1 + m]? = some o ∧
    (∀ t S, look Δ t = some S → (∃ (j : Nat) (oj : Oper), (((masks l [])[n1 + m]?).getD 0).testBit j = true ∧ l[j]? = some oj ∧ oj.dst = some t ∧ Ss[j]? = some S) ∨ look Γ t = some S) ∧
    (∀ j, j < m → (((masks l [])[n1 + m]?).getD 0).testBit (n1 + j) = true) ∧ (∀ j ∈ req, j < ds.length ∧ (((masks l [])[n1 + m]?).getD 0).testBit (n1 - ds.length + j) = true) ∧
    ((o.dst = none ∧ ∀ B : List (Option Nat), B.length = ds.length → (∀ j ∈ req, ∃ b, B[j]? = some (some b)) → StS E P (Δ ++ gctx ds B) (gmem Cs B ++ M) o (gmem Cs' B ++ M')) ∨ ∃ d S, o.dst = some d ∧ d < E.n ∧ Cs' = Cs ∧ M' = M ∧ OKG E P l.toArray Δ [] o S)
theorem phaseD2 {l : List Oper} {n0 n1 k : Nat} {Ss : List VP} {Ms : Mem} {ds : List Nat} {Cs : Nat → List MP} {f : Nat → Mem} (hn1 : n1 = n0 + ds.length) (hD : Dr E P l Γ Ms n0 Ss) (hsub : ∀ m, m ≤ k → Ms.Sublist (f m)) (hmid : ∀ m, m < k → MidD2 E P l Γ Ss n1 ds m (Cs m) (f m) (Cs (m + 1)) (f (m + 1)))
    (hCl : ∀ m, m ≤ k → (Cs m).length = ds.length) (hal : ∀ j, j < ds.length → AlAt E P l n0 n1 k ds Cs j)
    (hap : apartB l (n1 + k) Γ = true) (htl : tailB l (n1 + k) = true) (hnl : n1 + k ≤ l.length) (kk : ∀ bs : List Nat, bs.length = ds.length → Ops E P l.toArray Q (l.drop (n1 + k)) (dctx (l.take n0) Ss ++ (gctx ds (bs.map some) ++ Γ)) (gmem (Cs k) (bs.map some) ++ f k)) :
    ∀ (fuel : Nat) (listed : Array Bool) (a : Act) (w : World) (F : Blk) (m : Nat) (B : List (Option Nat)), m ≤ k → B.length = ds.length → (∀ j o, B[j]? = some o → (o = none ↔ listed.getD (n0 + j) false = false)) → listed.toList.countP (· == false) ≤ fuel → listed.size = l.length →
    (∀ j, n1 + m ≤ j → j < l.length → listed.getD j true = false) → (∀ j, n1 ≤ j → j < n1 + m → listed.getD j true = true) → Closed l (fun j => listed.getD j false = true) → Sat E (gctx ds B ++ Γ) (gmem (Cs m) B ++ f m) a w F → Done l Ss (fun j => listed.getD j false = true) a w F →
    wpAny P .any l.toArray Q fuel listed a w := by
  obtain ⟨hlen, hat⟩ := hD.at
  have hsp := tailB_spec htl
  have gd : ∀ (listed : Array Bool) j, j < listed.size → listed.getD j true = listed.getD j false := fun listed j hj => by simp [hj]
  have hapart : ∀ i d, i < n1 + k → (l[i]?).bind (·.dst) = some d → (∀ t S, look Γ t = some S → t ≠ d) ∧ ∀ j e, j < n1 + k → j ≠ i → (l[j]?).bind (·.dst) = some e → e ≠ d := by
    intro i d hi hd
    unfold apartB at hap
    rw [List.all_eq_true] at hap
    have h1 := hap i (by simpa using hi)
    rw [hd] at h1
    simp only [Bool.and_eq_true] at h1
    refine ⟨look_none h1.1, fun j e hj hne he => ?_⟩
    have h2 := List.all_eq_true.1 h1.2 j (by simpa using hj)
    rw [he] at h2
    simp only [Bool.or_eq_true, Bool.not_eq_true'] at h2
    rcases h2 with h2 | h2
    · exact absurd (Nat.eq_of_beq_eq_true h2).symm hne
    · exact fun e' => Nat.ne_of_beq_eq_false h2 e'.symm
  have hend : ∀ (fuel : Nat) (listed : Array Bool) (a : Act) (w : World) (F : Blk) (m : Nat) (B : List (Option Nat)), m ≤ k → B.length = ds.length → (∀ j o, B[j]? = some o → (o = none ↔ listed.getD (n0 + j) false = false)) → listed.toList.countP (· == false) ≤ fuel → listed.size = l.length →
      (∀ j, n1 + m ≤ j → j < l.length → listed.getD j true = false) → Closed l (fun j => listed.getD j false = true) → Sat E (gctx ds B ++ Γ) (gmem (Cs m) B ++ f m) a w F → Done l Ss (fun j => listed.getD j false = true) a w F →
      (∀ j, j < n1 + k → j < l.length → listed.getD j true = true) → wpAny P .any l.toArray Q fuel listed a w := by
    intro fuel listed a w F m B hm hBl hB hcnt hsz htail hc s hdone hall
    obtain rfl : m = k := by
      rcases Nat.lt_or_ge m k with h | h
      · have h1 := htail (n1 + m) (Nat.le_refl _) (by omega)
        have h2 := hall (n1 + m) (by omega) (by omega)
        rw [h1] at h2; cases h2
      · omega
    have hge := count_ge hsz htail
    obtain ⟨bs, hbl, hbe⟩ := all_some (B := B) (fun j o hj => by
      intro e
      have hjl : j < ds.length := by
        rcases Nat.lt_or_ge j B.length with h | h
        · omega
        · rw [List.getElem?_eq_none h] at hj; cases hj
      have h1 := (hB j o hj).1 e
      have h2 := hall (n0 + j) (by omega) (by omega)
      rw [gd listed (n0 + j) (by omega), h1] at h2; cases h2)
    subst hbe
    refine phaseB htl fuel (n1 + m) listed a w (Nat.le_refl _) (by omega) hsz hall htail hc (kk bs (by simpa using hBl) a w F (s.wider ?_))
    intro t S ht
    rw [look_append] at ht
    cases hl : look (dctx (l.take n0) Ss) t with
    | none => rw [hl] at ht; exact s.slots t S (by simpa using ht)
    | some S' =>
      rw [hl] at ht
      obtain rfl : S' = S := by simpa using ht
      obtain ⟨j, o, h1, h2, h3⟩ := look_dctx _ _ _ _ hl
      have hj : j < n0 := by
        rcases Nat.lt_or_ge j n0 with h' | h'
        · exact h'
        · rw [List.getElem?_eq_none (by omega)] at h3; cases h3
      rw [List.getElem?_take_of_lt hj] at h1
      exact hdone j o t S' (by have h4 := hall j (by omega) (by omega); rw [gd listed j (by omega)] at h4; exact h4) h1 h2 h3
  intro fuel
  induction fuel with
  | zero =>
    intro listed a w F m B hm hBl hB hcnt hsz htail hmids hc s hdone
    refine hend 0 listed a w F m B hm hBl hB hcnt hsz htail hc s hdone fun j hj hjl => ?_
    have hlt : j < listed.size := by omega
    have h0 : listed.toList.countP (· == false) = 0 := by omega
    rw [List.countP_eq_zero] at h0
    have := h0 listed[j] (by simp)
    simp [hlt]
    simpa using this
  | succ fuel ih =>
    intro listed a w F m B hm hBl hB hcnt hsz htail hmids hc s hdone
    by_cases hall : ∀ j, j < n1 + k → j < l.length → listed.getD j true = true
    · exact hend _ listed a w F m B hm hBl hB hcnt hsz htail hc s hdone hall
    · have hex : ∃ j, j < n1 + k ∧ listed.getD j true = false := by
        refine Classical.byContradiction fun hno => hall fun j hj _ => ?_
        cases hb : listed.getD j true with
        | true => rfl
        | false => exact absurd ⟨j, hj, hb⟩ hno
      refine ⟨fun hr => ?_, fun i hi => ?_⟩
      · obtain ⟨j, ⟨hj1, hj2⟩, hmin⟩ := exists_least hex
        have : j ∈ Region.ready .any l.toArray listed := by
          rw [mem_ready]
          have hjl : j < l.length := by omega
          refine ⟨hj2, l[j], by simp [hjl], fun e he hb => ?_⟩
          have hlt := hsp.1 j _ (List.getElem?_eq_getElem hjl) e he hb
          cases hbb : listed.getD e.on true with
          | true => rw [gd listed e.on (by omega)] at hbb; exact hbb
          | false => have := hmin e.on ⟨by omega, hbb⟩; omega
        rw [hr] at this; simp at this
      · have hi' := hi
        rw [mem_ready] at hi
        obtain ⟨g1, o, g2, g3⟩ := hi
        have g2' : l[i]? = some o := by simpa using g2
        have hil : i < l.length := by
          rcases Nat.lt_or_ge i l.length with h' | h'
          · exact h'
          · rw [List.getElem?_eq_none h'] at g2'; cases g2'
        have hin : i < n1 + k := by
          rcases Nat.lt_or_ge i (n1 + k) with h' | h'
          · exact h'
          · obtain ⟨j, hj1, hj2⟩ := hex
            obtain ⟨q, hq, hb⟩ := hsp.2 i hil h' j (by omega)
            have := reach hc i o g2' g3 j q hq hb
            have e : listed.getD j false = true := this
            rw [← gd listed j (by omega), hj2] at e; cases e
        have hmask : i < (masks l []).length := by rw [masks_len]; simpa using hil
        have hcount : (listed.setIfInBounds i true).toList.countP (· == false) ≤ fuel := by
          have hlt : i < listed.toList.length := by simp; omega
          have hli : listed.toList[i] = false := by
            have : i < listed.size := by omega
            simp [this] at g1; simpa using g1
          rw [Array.toList_setIfInBounds, List.countP_set hlt]
          rw [hli]
          have hpos : 0 < listed.toList.countP (· == false) := List.countP_pos_iff.2 ⟨false, by rw [← hli]; exact List.getElem_mem _, rfl⟩
          simp only [beq_self_eq_true, if_true]
          show _ - 1 + 0 ≤ fuel
          omega
        have hclosed : Closed l (fun j => (listed.setIfInBounds i true).getD j false = true) := by
          intro j oj hj hL e he hb
          by_cases ek : j = i
          · subst ek
            rw [g2'] at hj; obtain rfl := Option.some.inj hj
            exact getD_set_true (g3 e he hb)
          · exact getD_set_true (hc j oj hj (by
              have hL' : (listed.setIfInBounds i true).getD j false = true := hL
              rwa [getD_set_ne false (fun h => ek h.symm)] at hL') e he hb)
        have hΓs : ∀ t S, look Γ t = some S → S.h w F (a.tmps.getD t undef) := fun t S ht => by
          refine s.slots t S ?_
          rw [look_append]
          cases hl : look (gctx ds B) t with
          | none => simpa using ht
          | some S' =>
            obtain ⟨j, hj⟩ := look_gctx _ _ _ _ hl
            obtain ⟨ap1, _⟩ := hapart (n0 + j) t (by
              rcases Nat.lt_or_ge j ds.length with h | h
              · omega
              · rw [List.getElem?_eq_none h] at hj; cases hj) (by
              have hjl : j < ds.length := by
                rcases Nat.lt_or_ge j ds.length with h | h
                · exact h
                · rw [List.getElem?_eq_none h] at hj; cases hj
              obtain ⟨d, T, z, ty, pos, after, q1, q2, _⟩ := (hal j hjl).ex
              rw [q2]; rw [hj] at q1; obtain rfl := Option.some.inj q1; rfl)
            exact absurd rfl (ap1 t S ht)
        have hctx : ∀ Δ : Ctx, (∀ t S, look Δ t = some S → (∃ (j : Nat) (oj : Oper), (((masks l [])[i]?).getD 0).testBit j = true ∧ l[j]? = some oj ∧ oj.dst = some t ∧ Ss[j]? = some S) ∨ look Γ t = some S) →
            ∀ t S, look Δ t = some S → S.h w F (a.tmps.getD t undef) := by
          intro Δ a6 t S' ht
          rcases a6 t S' ht with ⟨j, oj, b0, b1, b2, b3⟩ | h
          · rw [List.getElem?_eq_getElem hmask] at b0
            exact hdone j oj t S' (reach hc i o g2' g3 j _ (List.getElem?_eq_getElem hmask) (by simpa using b0)) b1 b2 b3
          · exact hΓs t S' h
        have ho : l.toArray[i]? = some o := by simpa using g2'
        have hBset : ∀ (i' : Nat), i' = i → (∀ j, j < ds.length → n0 + j ≠ i') → ∀ j o, B[j]? = some o → (o = none ↔ (listed.setIfInBounds i true).getD (n0 + j) false = false) := by
          intro i' hi' hne j o' hj
          subst hi'
          have hjl : j < ds.length := by
            rcases Nat.lt_or_ge j B.length with h | h
            · omega
            · rw [List.getElem?_eq_none h] at hj; cases hj
          rw [getD_set_ne false (fun e => hne j hjl e.symm)]
          exact hB j o' hj
        rcases Nat.lt_or_ge i n0 with hin1 | hin1
        · obtain ⟨o', d, S, Δ, a1, a2, a3, a4, a6, a7⟩ := hat i hin1
          rw [g2'] at a1; obtain rfl := Option.some.inj a1
          have hbind : (l[i]?).bind (·.dst) = some d := by rw [g2']; exact a2
          obtain ⟨ap1, ap2⟩ := hapart i d (by omega) hbind
          have ap3 : ∀ t S, look (gctx ds B ++ Γ) t = some S → t ≠ d := fun t S ht => by
            rw [look_append] at ht
            cases hl : look (gctx ds B) t with
            | none => rw [hl] at ht; exact ap1 t S (by simpa using ht)
            | some S' =>
              obtain ⟨j, hj⟩ := look_gctx _ _ _ _ hl
              have hjl : j < ds.length := by
                rcases Nat.lt_or_ge j ds.length with h | h
                · exact h
                · rw [List.getElem?_eq_none h] at hj; cases hj
              obtain ⟨d', T, z, ty, pos, after, q1, q2, _⟩ := (hal j hjl).ex
              rw [hj] at q1; obtain rfl := Option.some.inj q1
              exact ap2 (n0 + j) t (by omega) (by omega) (by rw [q2]; rfl)
          have hsat : Sat E Δ Ms a w F := (s.wider (hctx Δ a6)).sub ((hsub m hm).trans (List.sublist_append_right _ _))
          have hstep := a7 a w F hsat (wpAny P .any l.toArray Q fuel (listed.setIfInBounds i true)) Q
          have hgo : ∀ v w' F', Adv w F w' F' → S.h w' F' v → wpAny P .any l.toArray Q fuel (listed.setIfInBounds i true) (a.put o.dst v) w' := by
            intro v w' F' ad hv
            rw [a2]
            have s1 := s.adv ad
            refine ih _ _ w' F' m B hm hBl (hBset i rfl (fun j _ => by omega)) hcount (by simp [hsz]) (fun j hj hjl => ?_) (fun j h1 h2 => ?_) hclosed (s1.putOut a3 v ap3) ?_
            · rw [getD_set_ne true (by omega)]; exact htail j hj hjl
            · rw [getD_set_ne true (by omega)]; exact hmids j h1 h2
            · intro j oj dj Sj hL hj hdj hSj
              rw [getD_put (by rw [s1.size]; exact a3)]
              by_cases ek : j = i
              · subst ek
                rw [g2'] at hj; obtain rfl := Option.some.inj hj
                rw [a2] at hdj; obtain rfl := Option.some.inj hdj
                rw [a4] at hSj; obtain rfl := Option.some.inj hSj
                rw [if_pos rfl]; exact hv
              · have hjn : j < n0 := by
                  rcases Nat.lt_or_ge j n0 with h' | h'
                  · exact h'
                  · rw [List.getElem?_eq_none (by omega)] at hSj; cases hSj
                have hne := ap2 j dj (by omega) ek (by rw [hj]; exact hdj)
                rw [if_neg (fun e => hne e.symm)]
                refine Sj.mono _ _ _ _ _ (hdone j oj dj Sj ?_ hj hdj hSj) (ad.same s.flt) ad.sub
                have hL' : (listed.setIfInBounds i true).getD j false = true := hL
                rwa [getD_set_ne false (fun h => ek h.symm)] at hL'
          have hres := hstep hgo
          unfold wpOp
          rw [ho]
          exact hres
        · rcases Nat.lt_or_ge i n1 with hin2 | hin2
          · -- a new block
            obtain ⟨q, rfl⟩ : ∃ q, i = n0 + q := ⟨i - n0, by omega⟩
            have hql : q < ds.length := by omega
            obtain ⟨d, T, z, Zs, ty, pos, after, q1, q2, q3, q4, q5, q6⟩ := (hal q hql).full
            rw [g2'] at q2; obtain rfl := Option.some.inj q2
            obtain ⟨ap1, ap2⟩ := hapart (n0 + q) d (by omega) (by rw [g2']; rfl)
            have hBq : B[q]? = some none := by
              have hlt : q < B.length := by omega
              have h1 := (hB q B[q] (List.getElem?_eq_getElem hlt)).2 (by rw [← gd listed (n0 + q) (by omega)]; exact g1)
              rw [List.getElem?_eq_getElem hlt, h1]
            have hCq : (Cs m)[q]? = some (cellM Zs) := by
              rcases q6 m hm with h | ⟨m', hm', hb⟩
              · exact h
              · have hml : n1 + m' < l.length := by omega
                have hL : listed.getD (n1 + m') false = true := by rw [← gd listed (n1 + m') (by omega)]; exact hmids _ (by omega) (by omega)
                have hmk2 : n1 + m' < (masks l []).length := by rw [masks_len]; simpa using hml
                rw [List.getElem?_eq_getElem hmk2] at hb
                have := reach hc (n1 + m') _ (List.getElem?_eq_getElem hml) (fun e he hb' => hc (n1 + m') _ (List.getElem?_eq_getElem hml) hL e he hb') (n0 + q) _ (List.getElem?_eq_getElem hmk2) (by simpa using hb)
                have e : listed.getD (n0 + q) false = true := this
                rw [← gd listed (n0 + q) (by omega), g1] at e; cases e
            unfold wpOp
            rw [ho]
            show if Region.wanted _ (yielded l.toArray a.tmps) then _ else _
            rw [if_pos (by simp [Region.wanted])]
            refine .inl ?_
            unfold Oper.wp
            have hr : (execOp a.eval (⟨some d, .alloc T, ty, pos, after, none⟩ : Oper)).run P w = .ok (.value (.pointer (some ⟨w.heap.size, 0, none⟩))) { w with heap := w.heap.push (.cells z.cells T) } := by
              have := run_zero (w := w) q4
              simp only [execOp, Instr.alloc, newVar, newRow, newObj, Sem.run_bind, this, Result.andThen_ok]
              simp [go_sem]; rfl
            rw [hr]
            show wpAny P .any l.toArray Q fuel (listed.setIfInBounds (n0 + q) true) (a.put (some d) _) _
            have ad : Adv w F { w with heap := w.heap.push (.cells z.cells T) } F := ⟨Keep.alloc _ _ _, fun _ h => h, fun _ h => .inl h⟩
            have s1 := (s.alloc (T := T) (q5 w F)).swap (i := q)
            have hM : (gmem (Cs m) B ++ f m).set q (some w.heap.size, cellM Zs) = gmem (Cs m) (B.set q (some w.heap.size)) ++ f m := gmem_set _ _ _ _ hBl (hCl m hm) hCq hql
            rw [hM] at s1
            refine ih _ _ _ F m (B.set q (some w.heap.size)) hm (by simp [hBl]) (fun j o' hj => ?_) hcount (by simp [hsz]) (fun j hj hjl => ?_) (fun j h1 h2 => ?_) hclosed ?_ ?_
            · by_cases e : j = q
              · subst e
                rw [List.getElem?_set_self (by omega)] at hj
                obtain rfl := Option.some.inj hj
                have : n0 + j < listed.size := by omega
                simp [this]
              · rw [List.getElem?_set_ne (fun h => e h.symm)] at hj
                rw [getD_set_ne false (by omega)]
                exact hB j o' hj
            · rw [getD_set_ne true (by omega)]; exact htail j hj hjl
            · rw [getD_set_ne true (by omega)]; exact hmids j h1 h2
            · have hsz2 : d < a.tmps.size := by rw [s1.size]; exact q3
              have hslots : ∀ t S, look (gctx ds (B.set q (some w.heap.size)) ++ Γ) t = some S → S.h { w with heap := w.heap.push (.cells z.cells T) } F ((a.put (some d) (.pointer (some ⟨w.heap.size, 0, none⟩))).tmps.getD t undef) := by
                intro t S ht
                rw [getD_put hsz2]
                rw [look_append] at ht
                cases hl : look (gctx ds (B.set q (some w.heap.size))) t with
                | none =>
                  rw [hl] at ht
                  have ht' : look Γ t = some S := by simpa using ht
                  rw [if_neg (fun e => ap1 t S ht' e.symm)]
                  exact S.mono _ _ _ _ _ (hΓs t S ht') (ad.same s.flt) ad.sub
                | some S' =>
                  rw [hl] at ht
                  obtain rfl : S' = S := by simpa using ht
                  rcases look_gctx_set _ _ _ _ _ _ hl with ⟨e1, e2⟩ | h
                  · rw [q1] at e1; obtain rfl := Option.some.inj e1
                    rw [if_pos rfl, e2]
                    intro b hb
                    obtain rfl := Option.some.inj hb; rfl
                  · by_cases e : d = t
                    · subst e
                      rw [if_pos rfl]
                      obtain ⟨j, o', h1, h2, h3⟩ := look_gctx_at _ _ _ _ h
                      have hjq : j = q := by
                        refine Classical.byContradiction fun hne => ?_
                        have hjl : j < ds.length := by
                          rcases Nat.lt_or_ge j ds.length with h | h
                          · exact h
                          · rw [List.getElem?_eq_none h] at h1; cases h1
                        obtain ⟨d', T', z', ty', pos', after', r1, r2, _⟩ := (hal j hjl).ex
                        rw [h1] at r1; obtain rfl := Option.some.inj r1
                        exact ap2 (n0 + j) d (by omega) (by omega) (by rw [r2]; rfl) rfl
                      subst hjq
                      rw [hBq] at h2; obtain rfl := Option.some.inj h2
                      rw [h3]
                      intro b hb; cases hb
                    · rw [if_neg e]
                      exact S'.mono _ _ _ _ _ (s.slots t S' (by rw [look_append, h]; rfl)) (ad.same s.flt) ad.sub
              exact { defers := s1.defers, size := by simp [Act.put, s1.size], keep := s1.keep, f0 := s1.f0, fnew := s1.fnew, flt := s1.flt, mem := s1.mem, slots := hslots }
            · intro j oj dj Sj hL hj hdj hSj
              have hjn : j < n0 := by
                rcases Nat.lt_or_ge j n0 with h' | h'
                · exact h'
                · rw [List.getElem?_eq_none (by omega)] at hSj; cases hSj
              have hne := ap2 j dj (by omega) (by omega) (by rw [hj]; exact hdj)
              rw [getD_put (by rw [s1.size]; exact q3), if_neg (fun e => hne e.symm)]
              refine Sj.mono _ _ _ _ _ (hdone j oj dj Sj ?_ hj hdj hSj) (ad.same s.flt) ad.sub
              have hL' : (listed.setIfInBounds (n0 + q) true).getD j false = true := hL
              rwa [getD_set_ne false (by omega)] at hL'
          -- a store: the next one of the row
          have him : n1 + m ≤ i := by
            rcases Nat.lt_or_ge i (n1 + m) with h | h
            · rw [hmids i hin2 h] at g1; cases g1
            · exact h
          have hieq : i = n1 + m := by
            rcases Nat.lt_or_ge (n1 + m) i with h | h
            · obtain ⟨o', Δ, req, b1, b3, b4, b5⟩ := (hmid (i - n1) (by omega)).ex
              have hb := b4 m (by omega)
              rw [show n1 + (i - n1) = i by omega, List.getElem?_eq_getElem hmask] at hb
              have := reach hc i o g2' g3 (n1 + m) _ (List.getElem?_eq_getElem hmask) (by simpa using hb)
              have e : listed.getD (n1 + m) false = true := this
              rw [← gd listed (n1 + m) (by omega), htail (n1 + m) (Nat.le_refl _) (by omega)] at e; cases e
            · omega
          subst hieq
          have hmk : m < k := by omega
          obtain ⟨o', Δ, req, b1, b3, b4, b7, b8⟩ := (hmid m hmk).ex
          rw [g2'] at b1; obtain rfl := Option.some.inj b1
          have hreq : ∀ j ∈ req, ∃ b, B[j]? = some (some b) := fun j hj => by
            obtain ⟨hjl, hb⟩ := b7 j hj
            rw [show n1 - ds.length + j = n0 + j by omega] at hb
            rw [List.getElem?_eq_getElem hmask] at hb
            have hL : listed.getD (n0 + j) false = true := reach hc (n1 + m) o g2' g3 (n0 + j) _ (List.getElem?_eq_getElem hmask) (by simpa using hb)
            have hlt : j < B.length := by omega
            cases hBj : B[j] with
            | none =>
              have := (hB j none (by rw [List.getElem?_eq_getElem hlt, hBj])).1 rfl
              rw [hL] at this; cases this
            | some b => exact ⟨b, by rw [List.getElem?_eq_getElem hlt, hBj]⟩
          rcases b8 with ⟨b2, b8⟩ | ⟨d, S, e1, e2, e3, e4, e5⟩
          rotate_left
          · obtain ⟨ap1, ap2⟩ := hapart (n1 + m) d (by omega) (by rw [g2']; exact e1)
            have ap3 : ∀ t S, look (gctx ds B ++ Γ) t = some S → t ≠ d := fun t S ht => by
              rw [look_append] at ht
              cases hl : look (gctx ds B) t with
              | none => rw [hl] at ht; exact ap1 t S (by simpa using ht)
              | some S' =>
                obtain ⟨j, hj⟩ := look_gctx _ _ _ _ hl
                have hjl : j < ds.length := by
                  rcases Nat.lt_or_ge j ds.length with h | h
                  · exact h
                  · rw [List.getElem?_eq_none h] at hj; cases hj
                obtain ⟨d', T, z, ty, pos, after, q1, q2, _⟩ := (hal j hjl).ex
                rw [hj] at q1; obtain rfl := Option.some.inj q1
                exact ap2 (n0 + j) t (by omega) (by omega) (by rw [q2]; rfl)
            have hsat : Sat E Δ [] a w F := (s.wider (hctx Δ b3)).sub (List.nil_sublist _)
            have hstep := e5 a w F hsat (wpAny P .any l.toArray Q fuel (listed.setIfInBounds (n1 + m) true)) Q
            have hgo : ∀ v w' F', Adv w F w' F' → S.h w' F' v → wpAny P .any l.toArray Q fuel (listed.setIfInBounds (n1 + m) true) (a.put o.dst v) w' := by
              intro v w' F' ad hv
              rw [e1]
              have s1 := s.adv ad
              refine ih _ _ w' F' (m + 1) B hmk hBl (hBset _ rfl (fun j hj => by omega)) hcount (by simp [hsz]) (fun j hj hjl => ?_) (fun j h1 h2 => ?_) hclosed (by rw [e3, e4]; exact s1.putOut e2 v ap3) ?_
              · rw [getD_set_ne true (by omega)]; exact htail j (by omega) hjl
              · by_cases e : j = n1 + m
                · subst e
                  have : n1 + m < listed.size := by omega
                  simp [this]
                · rw [getD_set_ne true (by omega)]; exact hmids j h1 (by omega)
              · intro j oj dj Sj hL hj hdj hSj
                have hjn : j < n0 := by
                  rcases Nat.lt_or_ge j n0 with h' | h'
                  · exact h'
                  · rw [List.getElem?_eq_none (by omega)] at hSj; cases hSj
                have hne := ap2 j dj (by omega) (by omega) (by rw [hj]; exact hdj)
                rw [getD_put (by rw [s1.size]; exact e2), if_neg (fun e => hne e.symm)]
                refine Sj.mono _ _ _ _ _ (hdone j oj dj Sj ?_ hj hdj hSj) (ad.same s.flt) ad.sub
                have hL' : (listed.setIfInBounds (n1 + m) true).getD j false = true := hL
                rwa [getD_set_ne false (by omega)] at hL'
            have hres := hstep hgo
            unfold wpOp
            rw [ho]
            exact hres
          obtain ⟨b5, b6⟩ := b8 B hBl hreq
          have hsat : Sat E (Δ ++ gctx ds B) (gmem (Cs m) B ++ f m) a w F := s.wider (fun t S ht => by
            rw [look_append] at ht
            cases hl : look Δ t with
            | some S' =>
              rw [hl] at ht
              obtain rfl : S' = S := by simpa using ht
              exact hctx Δ b3 t S' hl
            | none =>
              rw [hl] at ht
              have ht' : look (gctx ds B) t = some S := by simpa using ht
              exact s.slots t S (by rw [look_append, ht']; rfl))
          have hgo : ∀ w', (∀ b, F b → w'.heap[b]? = w.heap[b]?) → (∀ Γ'', Sat E Γ'' (gmem (Cs m) B ++ f m) a w F → Sat E Γ'' (gmem (Cs (m + 1)) B ++ f (m + 1)) a w' F) → wpAny P .any l.toArray Q fuel (listed.setIfInBounds (n1 + m) true) a w' := by
            intro w' hF hS
            refine ih _ _ w' F (m + 1) B hmk hBl (hBset _ rfl (fun j hj => by omega)) hcount (by simp [hsz]) (fun j hj hjl => ?_) (fun j h1 h2 => ?_) hclosed (hS _ s) ?_
            · rw [getD_set_ne true (by omega)]; exact htail j (by omega) hjl
            · by_cases e : j = n1 + m
              · subst e
                have : n1 + m < listed.size := by omega
                simp [this]
              · rw [getD_set_ne true (by omega)]; exact hmids j h1 (by omega)
            · intro j oj dj Sj hL hj hdj hSj
              have hjn : j < n0 := by
                rcases Nat.lt_or_ge j n0 with h' | h'
                · exact h'
                · rw [List.getElem?_eq_none (by omega)] at hSj; cases hSj
              refine Sj.mono _ _ _ _ _ (hdone j oj dj Sj ?_ hj hdj hSj) hF (fun _ h => h)
              have hL' : (listed.setIfInBounds (n1 + m) true).getD j false = true := hL
              rwa [getD_set_ne false (by omega)] at hL'
          unfold wpOp
          rw [ho]
          show if Region.wanted o (yielded l.toArray a.tmps) then _ else _
          rw [if_pos (by simp [Region.wanted, b5])]
          exact .inl (b6 a w F hsat _ Q hgo)
/-- the stores, one by one, beside blocks that are made -/
def DrN2 (E : Env) (P : Program) (id : Nat) (l : List Oper) (Γ : Ctx) (M Ms : Mem) (Q : Exit → Act → World → Prop) (n0 n1 : Nat) (ds : List Nat) (zs : List (List VP)) (Θ : Ctx) (m : Nat) (Cs : List MP) (Mc : Mem) : Prop :=
  ∀ (Ss : List VP) (CF : Nat → List MP) (f : Nat → Mem), Dr E P l Γ Ms n0 Ss → (∀ t S, look Θ t = some S → ∃ (j : Nat) (o : Oper), j < n0 ∧ l[j]? = some o ∧ o.dst = some t ∧ Ss[j]? = some S) → n1 = n0 + ds.length → Als E P l n0 ds zs →
    CF 0 = zs.map cellM → f 0 = M → CF m = Cs → f m = Mc → (∀ j, j ≤ m → Ms.Sublist (f j)) → (∀ j, j ≤ m → (CF j).length = ds.length) → (∀ j, j < m → MidD2 E P l Γ Ss n1 ds j (CF j) (f j) (CF (j + 1)) (f (j + 1))) →
    (∀ q, q < ds.length → ∀ j, j ≤ m → (CF j)[q]? = (zs.map cellM)[q]? ∨ ∃ m', m' < j ∧ (((masks l [])[n1 + m']?).getD 0).testBit (n0 + q) = true) → Tri E P (.region id l.toArray true) Γ M Q
theorem DrH.als2 {id n0 n1 : Nat} {l : List Oper} {Θ : Ctx} {Ms : Mem} {ds : List Nat} {zs : List (List VP)} {Cs : List MP} (hn : n1 = n0 + ds.length) (ha : Als E P l n0 ds zs) (hs : Ms.Sublist M) (hC : zs.map cellM = Cs) (k : DrN2 E P id l Γ M Ms Q n0 n1 ds zs Θ 0 Cs M) : DrH E P id l Γ M Ms Q n0 Θ := by
  intro Ss hD hΘ
  subst hC
  refine k Ss (fun _ => zs.map cellM) (fun _ => M) hD hΘ hn ha rfl rfl rfl rfl (fun j hj => hs) (fun j hj => by simp [ha.len]) (fun j hj => absurd hj (by omega)) (fun q hq j hj => .inl rfl)
/-- a store into a block that is made in the region -/
theorem DrN2.new {id n0 n1 m : Nat} {l : List Oper} {Θ : Ctx} {Ms Mc : Mem} {ds : List Nat} {zs : List (List VP)} {Cs Cs' : List MP} (ts : List Nat) (j : Nat) {dj n : Nat} {g : Bool} {T : TypeId} {y : Operand} {Ss0 Ss1 Ss' : List VP} {S : VP} [sh : Shape S Ss1] [o1 : Ones Ss1]
    (h1 : l[n1 + m]? = some ⟨none, .store T (.tmp dj) y, ty, pos, after, none⟩) (h4 : behindB l (n1 + m) ts = true) (hc : chainB l n1 m = true) (hdj : ds[j]? = some dj) (hfirst : ((List.range j).all fun i => !Nat.beq (ds.getD i 0) dj) = true) (hno : look (keepc ts Θ ++ Γ) dj = none)
    (hb : (((masks l [])[n1 + m]?).getD 0).testBit (n1 - ds.length + j) = true) (hC : Cs[j]? = some (cellM Ss0)) (hy : Has E (keepc ts Θ ++ Γ) [] y S) (hT : tyB P T = some (n, g)) (hn : Nat.beq Ss1.length n = true) (hl : Nat.ble (0 + n) Ss0.length = true)
    (hS : Ss0.take 0 ++ Ss1 ++ Ss0.drop (0 + n) = Ss') (hCs : Cs.set j (cellM Ss') = Cs') (k : DrN2 E P id l Γ M Ms Q n0 n1 ds zs Θ (m + 1) Cs' Mc) : DrN2 E P id l Γ M Ms Q n0 n1 ds zs Θ m Cs Mc := by
  intro Ss CF f hD hΘ hn1 hal hC0 hf0 hCm hfm hsub hlen hmid hq
  have hjl : j < ds.length := by
    rcases Nat.lt_or_ge j ds.length with h | h
    · exact h
    · rw [List.getElem?_eq_none h] at hdj; cases hdj
  have hCl : Cs.length = ds.length := by rw [← hCm]; exact hlen m (Nat.le_refl _)
  refine k Ss (fun i => if i = m + 1 then Cs' else CF i) (fun i => if i = m + 1 then Mc else f i) hD hΘ hn1 hal (by simp [hC0]) (by simp [hf0]) (by simp) (by simp) (fun i hi => ?_) (fun i hi => ?_) (fun i hi => ?_) (fun q hql i hi => ?_)
  · show Ms.Sublist (if i = m + 1 then Mc else f i)
    split
    · rw [← hfm]; exact hsub m (Nat.le_refl _)
    · exact hsub i (by omega)
  · show (if i = m + 1 then Cs' else CF i).length = _
    split
    · rw [← hCs, List.length_set, hCl]
    · exact hlen i (by omega)
  · show MidD2 E P l Γ Ss n1 ds i (if i = m + 1 then Cs' else CF i) (if i = m + 1 then Mc else f i) (if i + 1 = m + 1 then Cs' else CF (i + 1)) (if i + 1 = m + 1 then Mc else f (i + 1))
    rw [if_neg (by omega), if_neg (by omega)]
    by_cases e : i = m
    · subst e
      rw [if_pos rfl, if_pos rfl, hfm, hCm]
      refine ⟨_, keepc ts Θ ++ Γ, [j], h1, fun t S' ht => ?_, fun i' hi' => ?_, fun j' hj' => ?_, .inl ⟨rfl, fun B hBl hreq => ?_⟩⟩
      · rw [look_append] at ht
        cases hl2 : look (keepc ts Θ) t with
        | none => rw [hl2] at ht; exact .inr (by simpa using ht)
        | some S'' =>
          rw [hl2] at ht
          obtain rfl : S'' = S' := by simpa using ht
          obtain ⟨hm2, hl3⟩ := look_keepc _ _ _ hl2
          obtain ⟨i', oj, b0, b1, b2, b3⟩ := hΘ t S'' hl3
          refine .inl ⟨i', oj, ?_, b1, b2, b3⟩
          have := List.all_eq_true.1 h4 i' (by simp; omega)
          rw [b1] at this
          simp only [Option.bind_some, b2, Bool.or_eq_true] at this
          rcases this with h | h
          · exact h
          · have := List.all_eq_true.1 h t hm2
            simp [Nat.beq_refl] at this
      · exact List.all_eq_true.1 hc i' (by simpa using hi')
      · obtain rfl : j' = j := by simpa using hj'
        exact ⟨hjl, hb⟩
      · obtain ⟨b, hBj⟩ := hreq j (by simp)
        have hlk : look ((keepc ts Θ ++ Γ) ++ gctx ds B) dj = some (isOP (some b)) := by
          rw [look_append, hno]
          refine look_gctx_of ds B j dj (some b) (fun i' hi' e => ?_) hdj hBj
          have := List.all_eq_true.1 hfirst i' (by simpa using hi')
          rw [List.getD, e] at this
          simp [nbeq_self] at this
        refine StS.store (b := b) (off := 0) (i := j) (Ss := Ss0) (Ss' := Ss') (Has.op hlk) (Has.up hy) (gmem_at _ _ _ hBj hC) hT hn hl hS ?_
        rcases gmem_setC Cs B j (C := cellM Ss') (M := Mc) hBj with h | h
        · rw [h, hCs]
        · omega
    · rw [if_neg (by omega), if_neg (by omega)]
      exact hmid i (by omega)
  · show (if i = m + 1 then Cs' else CF i)[q]? = _ ∨ _
    by_cases e : i = m + 1
    · rw [if_pos e]
      by_cases ej : q = j
      · subst ej
        refine .inr ⟨m, by omega, ?_⟩
        rwa [show n1 - ds.length + q = n0 + q by omega] at hb
      · rw [← hCs, List.getElem?_set_ne (fun h => ej h.symm), ← hCm]
        rcases hq q hql m (Nat.le_refl _) with h | ⟨m', hm', hb'⟩
        · exact .inl h
        · exact .inr ⟨m', by omega, hb'⟩
    · rw [if_neg e]
      exact hq q hql i (by omega)
theorem DrN2.fin {id n0 n1 m n : Nat} {l : List Oper} {Θ : Ctx} {Ms Mc : Mem} {ds : List Nat} {zs : List (List VP)} {Cs : List MP} (hm : P.follows .mixedOrders = true) (hn : n = n1 + m) (hap : apartB l n Γ = true) (htl : tailB l n = true) (hnl : Nat.ble n l.length = true)
    (k : ∀ bs : List Nat, bs.length = ds.length → Ops E P l.toArray Q (l.drop n) (Θ ++ (gctx ds (bs.map some) ++ Γ)) (gmem Cs (bs.map some) ++ Mc)) : DrN2 E P id l Γ M Ms Q n0 n1 ds zs Θ m Cs Mc := by
  intro Ss CF f hD hΘ hn1 hal hC0 hf0 hCm hfm hsub hlen hmid hq
  subst hn
  have hnl' := Nat.le_of_ble_eq_true hnl
  have hap1 : ∀ i d, i < n1 + m → (l[i]?).bind (·.dst) = some d → (∀ t S, look Γ t = some S → t ≠ d) ∧ ∀ j e, j < n1 + m → j ≠ i → (l[j]?).bind (·.dst) = some e → e ≠ d := by
    intro i d hi hd
    have h1 := List.all_eq_true.1 hap i (by simpa using hi)
    rw [hd] at h1
    simp only [Bool.and_eq_true] at h1
    refine ⟨look_none h1.1, fun j e hj hne he => ?_⟩
    have h2 := List.all_eq_true.1 h1.2 j (by simpa using hj)
    rw [he] at h2
    simp only [Bool.or_eq_true, Bool.not_eq_true'] at h2
    rcases h2 with h2 | h2
    · exact absurd (Nat.eq_of_beq_eq_true h2).symm hne
    · exact fun e' => Nat.ne_of_beq_eq_false h2 e'.symm
  have hk : ∀ bs : List Nat, bs.length = ds.length → Ops E P l.toArray Q (l.drop (n1 + m)) (dctx (l.take n0) Ss ++ (gctx ds (bs.map some) ++ Γ)) (gmem (CF m) (bs.map some) ++ f m) := by
    intro bs hbs
    rw [hfm, hCm]
    refine fun a w F s => k bs hbs a w F (s.wider fun t S ht => ?_)
    rw [look_append] at ht
    cases hl : look Θ t with
    | none =>
      rw [hl] at ht
      have ht' : look (gctx ds (bs.map some) ++ Γ) t = some S := by simpa using ht
      have hno : look (dctx (l.take n0) Ss) t = none := by
        cases hd : look (dctx (l.take n0) Ss) t with
        | none => rfl
        | some S' =>
          obtain ⟨j, o, b1, b2, b3⟩ := look_dctx _ _ _ _ hd
          have hj : j < n0 := by
            rcases Nat.lt_or_ge j n0 with h' | h'
            · exact h'
            · rw [List.getElem?_eq_none (by simp; omega)] at b1; cases b1
          rw [List.getElem?_take_of_lt hj] at b1
          obtain ⟨p1, p2⟩ := hap1 j t (by omega) (by rw [b1]; exact b2)
          rw [look_append] at ht'
          cases hg : look (gctx ds (bs.map some)) t with
          | none => rw [hg] at ht'; exact absurd rfl (p1 t S (by simpa using ht'))
          | some S'' =>
            obtain ⟨q, hq'⟩ := look_gctx _ _ _ _ hg
            have hql : q < ds.length := by
              rcases Nat.lt_or_ge q ds.length with h | h
              · exact h
              · rw [List.getElem?_eq_none h] at hq'; cases hq'
            obtain ⟨d, T, z, Zs, ty, pos, after, a1, a2, _⟩ := hal.at q hql
            rw [hq'] at a1; obtain rfl := Option.some.inj a1
            exact absurd rfl (p2 (n0 + q) t (by omega) (by omega) (by rw [a2]; rfl))
      exact s.slots t S (by rw [look_append, hno]; simpa using ht')
    | some S' =>
      rw [hl] at ht
      obtain rfl : S' = S := by simpa using ht
      obtain ⟨j, o, b0, b1, b2, b3⟩ := hΘ t S' hl
      have hex : ∀ (l' : List Oper) (Ss' : List VP) (j : Nat), (l'[j]?).bind (·.dst) = some t → Ss'[j]? = some S' → (∀ j', j' ≠ j → (l'[j']?).bind (·.dst) ≠ some t) → look (dctx l' Ss') t = some S' := by
        intro l'
        induction l' with
        | nil => intro Ss' j h; simp at h
        | cons o' l' ih =>
          intro Ss' j h1 h2 h3
          cases Ss' with
          | nil => simp at h2
          | cons T Ss' =>
            cases j with
            | zero =>
              simp at h1 h2
              subst h2
              simp [dctx, h1, look]
            | succ j =>
              have hrec := ih Ss' j (by simpa using h1) (by simpa using h2) (fun j' hj' => by simpa using h3 (j' + 1) (by omega))
              have h0 := h3 0 (by omega)
              simp at h0
              simp only [dctx]
              cases hd : o'.dst with
              | none => exact hrec
              | some d' =>
                simp only [look]
                have hne : Nat.beq d' t = false := by
                  cases hb : Nat.beq d' t with
                  | false => rfl
                  | true => exact absurd (by rw [hd, Nat.eq_of_beq_eq_true hb]) h0
                rw [hne]; exact hrec
      have hlk := hex (l.take n0) Ss j (by rw [List.getElem?_take_of_lt b0, b1]; exact b2) b3 (fun j' hj' he => by
        have hj'n : j' < n0 := by
          rcases Nat.lt_or_ge j' n0 with h' | h'
          · exact h'
          · rw [List.getElem?_eq_none (by simp; omega)] at he; simp at he
        rw [List.getElem?_take_of_lt hj'n] at he
        exact (hap1 j t (by omega) (by rw [b1]; exact b2)).2 j' t (by omega) hj' he rfl)
      exact s.slots t S' (by rw [look_append, hlk]; rfl)
  intro a w F s
  refine wp_region_any hm ?_
  have s1 := s.adv (Adv.drew w F)
  have hzl := hal.len
  refine phaseD2 hn1 hD hsub hmid hlen (fun q hql => ?_) hap htl hnl' hk _ _ a _ F 0 (List.replicate ds.length none) (Nat.zero_le _) (by simp) (fun j o hj => ?_) ?_ (by simp) (fun j hj hjl => ?_) (fun j h1 h2 => absurd h2 (by omega)) ?_ ?_ ?_
  · obtain ⟨d, T, z, Zs, ty, pos, after, a1, a2, a3, a4, a5, a6⟩ := hal.at q hql
    refine ⟨d, T, z, Zs, ty, pos, after, a1, a2, a3, a4, a5, fun m' hm' => ?_⟩
    have := hq q hql m' hm'
    rw [List.getElem?_map, a6] at this
    simpa using this
  · have hjl : j < ds.length := by
      rcases Nat.lt_or_ge j ds.length with h | h
      · exact h
      · rw [List.getElem?_eq_none (by simpa using h)] at hj; cases hj
    rw [List.getElem?_replicate, if_pos hjl] at hj
    obtain rfl := Option.some.inj hj
    have : n0 + j < l.length := by omega
    simp [this]
  · simp
    exact Nat.le_trans List.countP_le_length (by simp)
  · have : j < l.length := hjl
    simp [this]
  · intro i o hi hL
    simp [Array.getD_eq_getD_getElem?, Array.getElem?_replicate] at hL
    split at hL <;> simp at hL
  · rw [hf0, hC0]
    have hgn : ∀ (Cs : List MP) (k : Nat), ∀ x ∈ gmem Cs (List.replicate k none), x.1 = none := by
      intro Cs
      induction Cs with
      | nil => intro k x hx; simp [gmem] at hx
      | cons C Cs ih =>
        intro k x hx
        cases k with
        | zero => simp [gmem] at hx
        | succ k =>
          rw [List.replicate_succ] at hx
          simp only [gmem, List.mem_cons] at hx
          rcases hx with rfl | hx
          · rfl
          · exact ih k x hx
    have hgc : ∀ (ds : List Nat) (k : Nat) t S, look (gctx ds (List.replicate k none)) t = some S → S = isOP none := by
      intro ds k t S h
      obtain ⟨j, o, h1, h2, h3⟩ := look_gctx_at _ _ _ _ h
      rw [List.getElem?_replicate] at h2
      split at h2
      · obtain rfl := Option.some.inj h2; exact h3
      · cases h2
    refine { s1 with slots := fun t S ht => ?_, mem := ⟨?_, fun b C hb => ?_⟩ }
    · rw [look_append] at ht
      cases hl : look (gctx ds (List.replicate ds.length none)) t with
      | none => rw [hl] at ht; exact s1.slots t S (by simpa using ht)
      | some S' =>
        rw [hl] at ht
        obtain rfl : S' = S := by simpa using ht
        rw [hgc _ _ _ _ hl]
        intro b hb; cases hb
    · rw [List.pairwise_append]
      refine ⟨?_, s1.mem.apart, fun x hx y hy => .inl (hgn _ _ x hx)⟩
      exact List.Pairwise.imp_of_mem (R := fun _ _ => True) (fun hx _ _ => .inl (hgn _ _ _ hx)) (List.pairwise_of_forall (fun _ _ => trivial))
    · rcases List.mem_append.1 hb with h | h
      · have := hgn _ _ _ h; cases this
      · exact s1.mem.each b C h
  · intro j o d S hL
    simp [Array.getD_eq_getD_getElem?, Array.getElem?_replicate] at hL
    split at hL <;> simp at hL
/-- without new blocks -/
theorem DrH.mid2 {id n0 : Nat} {l : List Oper} {Θ : Ctx} {Ms : Mem} (hs : Ms.Sublist M) (k : DrN2 E P id l Γ M Ms Q n0 n0 [] [] Θ 0 [] M) : DrH E P id l Γ M Ms Q n0 Θ := DrH.als2 (ds := []) (zs := []) rfl .nil hs rfl k
theorem DrN2.st0 {id n1 m : Nat} {l : List Oper} {Θ : Ctx} {Ms Mc M' : Mem} {o : Oper} (ts : List Nat) (h1 : l[n1 + m]? = some o) (h2 : o.dst = none) (h4 : behindB l (n1 + m) ts = true) (hc : chainB l n1 m = true)
    (h5 : StS E P (keepc ts Θ ++ Γ) Mc o M') (hs : Ms.Sublist M') (k : DrN2 E P id l Γ M Ms Q n1 n1 [] [] Θ (m + 1) [] M') : DrN2 E P id l Γ M Ms Q n1 n1 [] [] Θ m [] Mc := by
  intro Ss CF f hD hΘ hn1 hal hC0 hf0 hCm hfm hsub hlen hmid hq
  have hCl : ([] : List MP).length = ([] : List Nat).length := rfl
  refine k Ss (fun i => if i = m + 1 then [] else CF i) (fun i => if i = m + 1 then M' else f i) hD hΘ hn1 hal (by simp [hC0]) (by simp [hf0]) (by simp) (by simp) (fun i hi => ?_) (fun i hi => ?_) (fun i hi => ?_) (fun q hql i hi => ?_)
  · show Ms.Sublist (if i = m + 1 then M' else f i)
    split
    · exact hs
    · exact hsub i (by omega)
  · show (if i = m + 1 then [] else CF i).length = _
    split
    · exact hCl
    · exact hlen i (by omega)
  · skip
    show MidD2 E P l Γ Ss n1 [] i (if i = m + 1 then [] else CF i) (if i = m + 1 then M' else f i) (if i + 1 = m + 1 then [] else CF (i + 1)) (if i + 1 = m + 1 then M' else f (i + 1))
    rw [if_neg (by omega), if_neg (by omega)]
    by_cases e : i = m
    · subst e
      rw [if_pos rfl, if_pos rfl, hfm, hCm]
      refine ⟨_, keepc ts Θ ++ Γ, [], h1, fun t S' ht => ?_, fun i' hi' => ?_, fun j' hj' => absurd hj' (by simp), .inl ⟨h2, fun B hBl hreq => by
        obtain rfl := List.eq_nil_of_length_eq_zero hBl
        show StS E P ((keepc ts Θ ++ Γ) ++ []) _ o _
        rw [List.append_nil]; exact h5⟩⟩
      · rw [look_append] at ht
        cases hl2 : look (keepc ts Θ) t with
        | none => rw [hl2] at ht; exact .inr (by simpa using ht)
        | some S'' =>
          rw [hl2] at ht
          obtain rfl : S'' = S' := by simpa using ht
          obtain ⟨hm2, hl3⟩ := look_keepc _ _ _ hl2
          obtain ⟨i', oj, b0, b1, b2, b3⟩ := hΘ t S'' hl3
          refine .inl ⟨i', oj, ?_, b1, b2, b3⟩
          have := List.all_eq_true.1 h4 i' (by simp; omega)
          rw [b1] at this
          simp only [Option.bind_some, b2, Bool.or_eq_true] at this
          rcases this with h | h
          · exact h
          · have := List.all_eq_true.1 h t hm2
            simp [Nat.beq_refl] at this
      · exact List.all_eq_true.1 hc i' (by simpa using hi')
    · rw [if_neg (by omega), if_neg (by omega)]
      exact hmid i (by omega)
  · show (if i = m + 1 then [] else CF i)[q]? = _ ∨ _
    by_cases e : i = m + 1
    · rw [if_pos e, ← hCm]
      rcases hq q hql m (Nat.le_refl _) with h | ⟨m', hm', hb'⟩
      · exact .inl h
      · exact .inr ⟨m', by omega, hb'⟩
    · rw [if_neg e]
      exact hq q hql i (by omega)
theorem DrN2.fin0 {id n1 m n : Nat} {l : List Oper} {Θ : Ctx} {Ms Mc : Mem} (hm : P.follows .mixedOrders = true) (hn : n = n1 + m) (hap : apartB l n Γ = true) (htl : tailB l n = true) (hnl : Nat.ble n l.length = true)
    (k : Ops E P l.toArray Q (l.drop n) (Θ ++ Γ) Mc) : DrN2 E P id l Γ M Ms Q n1 n1 [] [] Θ m [] Mc := DrN2.fin hm hn hap htl hnl fun bs hbs => by
  obtain rfl := List.eq_nil_of_length_eq_zero hbs
  exact k
end
end Go.En
/- What the functions on whole numbers tell. No program here. -/
namespace Go.Nt
theorem zv_zero (n : Bool) (xs : List Nat) : zv n xs = 0 ↔ val xs = 0 := by unfold zv; split <;> omega
theorem from_neg (m : Bool) (xs : List Nat) : (m && decide (0 < (((List.length (words (val xs))) : Nat) : Int))) = decide (zv m xs < 0) := by
  rw [zv_neg]
  congr 1
  apply decide_eq_decide.2
  constructor
  · intro h e; rw [e, words_zero] at h; simp at h
  · intro h; have := nw_pos h; omega
theorem from_word (m : Bool) (n : Nat) : zv m (words n) = if m = true then -(n : Int) else (n : Int) := by unfold zv; rw [val_words]
theorem neg_word {x : Int} (h : x < 0) (h2 : -9223372036854775808 ≤ x) : (18446744073709551616 - (x % 18446744073709551616).toNat) % 18446744073709551616 = x.natAbs := by omega
theorem sgn_zero {n : Bool} {xs : List Nat} (h : ((bitLen (val xs) : Nat) : Int) = 0) : 0 = sgn (zv n xs) := by
  have h2 : val xs = 0 := by
    rcases Nat.eq_zero_or_pos (val xs) with e | e
    · exact e
    · have := bitLen_pos (x := val xs) (by omega); omega
  unfold sgn; rw [if_pos ((zv_zero n xs).2 h2)]
theorem sgn_of {n : Bool} {xs : List Nat} (h : ¬ ((bitLen (val xs) : Nat) : Int) = 0) : (if n = true then -1 else 1) = sgn (zv n xs) := by
  have h2 : val xs ≠ 0 := fun e => h (by rw [e]; rfl)
  cases n
  · have e : zv false xs = (val xs : Int) := zv_false xs
    show (1 : Int) = sgn (zv false xs)
    rw [e]; unfold sgn; rw [if_neg (by omega), if_neg (by omega)]
  · have e : zv true xs = -(val xs : Int) := by unfold zv; rw [if_pos rfl]
    show (-1 : Int) = sgn (zv true xs)
    rw [e]; unfold sgn; rw [if_neg (by omega), if_pos (by omega)]
theorem sgn_cases (z : Int) : (sgn z = 0 ∧ z = 0) ∨ (sgn z = -1 ∧ z < 0) ∨ (sgn z = 1 ∧ 0 < z) := by
  unfold sgn; split
  · exact .inl ⟨rfl, by assumption⟩
  · split
    · exact .inr (.inl ⟨rfl, by assumption⟩)
    · exact .inr (.inr ⟨rfl, by omega⟩)
theorem cmpZ_lt {x y : Int} (h : sgn x < sgn y) : -1 = cmpZ x y := by
  have : x < y := by rcases sgn_cases x with h1 | h1 | h1 <;> rcases sgn_cases y with h2 | h2 | h2 <;> omega
  unfold cmpZ; rw [if_pos this]
theorem cmpZ_gt {x y : Int} (h : sgn y < sgn x) : 1 = cmpZ x y := by
  have : y < x := by rcases sgn_cases x with h1 | h1 | h1 <;> rcases sgn_cases y with h2 | h2 | h2 <;> omega
  unfold cmpZ; rw [if_neg (by omega), if_pos this]
theorem cmpN_cases (a b : Nat) : (a < b ∧ cmpN a b = -1) ∨ (b < a ∧ cmpN a b = 1) ∨ (a = b ∧ cmpN a b = 0) := by
  unfold cmpN; split
  · exact .inl ⟨by assumption, rfl⟩
  · split
    · exact .inr (.inl ⟨by assumption, rfl⟩)
    · exact .inr (.inr ⟨by omega, rfl⟩)
theorem cmpZ_cases (x y : Int) : (x < y ∧ cmpZ x y = -1) ∨ (y < x ∧ cmpZ x y = 1) ∨ (x = y ∧ cmpZ x y = 0) := by
  unfold cmpZ; split
  · exact .inl ⟨by assumption, rfl⟩
  · split
    · exact .inr (.inl ⟨by assumption, rfl⟩)
    · exact .inr (.inr ⟨by omega, rfl⟩)
theorem cmpZ_neg {m n : Bool} {xs ys : List Nat} (h1 : sgn (zv m xs) < 0) (h2 : ¬ sgn (zv m xs) < sgn (zv n ys)) (h3 : ¬ sgn (zv n ys) < sgn (zv m xs)) : cmpN (val ys) (val xs) = cmpZ (zv m xs) (zv n ys) := by
  have hx := zv_abs m xs
  have hy := zv_abs n ys
  generalize zv m xs = x at *
  generalize zv n ys = y at *
  rcases sgn_cases x with c | c | c <;> rcases sgn_cases y with d | d | d <;> rcases cmpN_cases (val ys) (val xs) with e | e | e <;> rcases cmpZ_cases x y with f | f | f <;> omega
theorem cmpZ_pos {m n : Bool} {xs ys : List Nat} (h1 : ¬ sgn (zv m xs) < 0) (h2 : ¬ sgn (zv m xs) < sgn (zv n ys)) (h3 : ¬ sgn (zv n ys) < sgn (zv m xs)) : cmpN (val xs) (val ys) = cmpZ (zv m xs) (zv n ys) := by
  have hx := zv_abs m xs
  have hy := zv_abs n ys
  generalize zv m xs = x at *
  generalize zv n ys = y at *
  rcases sgn_cases x with c | c | c <;> rcases sgn_cases y with d | d | d <;> rcases cmpN_cases (val xs) (val ys) with e | e | e <;> rcases cmpZ_cases x y with f | f | f <;> omega
theorem cmpZ_eq0 (x y : Int) : decide (cmpZ x y = 0) = decide (x = y) := by
  apply decide_eq_decide.2
  rcases cmpZ_cases x y with h | h | h <;> omega
theorem sgn_nn (z : Int) : 0 ≤ sgn z ↔ 0 ≤ z := by rcases sgn_cases z with h | h | h <;> omega
theorem sgn_pos (z : Int) : 0 < sgn z ↔ 0 < z := by rcases sgn_cases z with h | h | h <;> omega
theorem sgn_eq0 (z : Int) : sgn z = 0 ↔ z = 0 := by rcases sgn_cases z with h | h | h <;> omega
theorem sgn_lt (z : Int) : sgn z < 0 ↔ z < 0 := by rcases sgn_cases z with h | h | h <;> omega
theorem quo_rest (m n : Bool) (xs ys : List Nat) : zv m (words (if val ys = 0 then 0 else val xs % val ys)) = if zv n ys = 0 then 0 else (zv m xs).tmod (zv n ys) := by
  by_cases h : val ys = 0
  · rw [if_pos h, if_pos ((zv_zero n ys).2 h), from_word]; simp
  · rw [if_neg h, if_neg (fun e => h ((zv_zero n ys).1 e)), zv_tmod]
theorem ne_zv (n : Bool) (ys : List Nat) : decide (val ys ≠ 0) = decide (zv n ys ≠ 0) := decide_eq_decide.2 (not_congr (zv_zero n ys).symm)
/-- Euclid's quotient and rest out of those rounded to 0 -/
theorem euc0 {x y : Int} (h : ¬ y ≠ 0 ∨ 0 ≤ sgn (if y = 0 then 0 else x.tmod y)) : x.tdiv y = x / y ∧ (if y = 0 then 0 else x.tmod y) = (if y = 0 then 0 else x % y) := by
  by_cases hy : y = 0
  · subst hy; simp
  · rw [if_neg hy, sgn_nn] at h
    rw [if_neg hy, if_neg hy]
    exact (tmod_cases x y).1 (h.resolve_left (fun e => e hy))
theorem euc1 {x y : Int} (h : y ≠ 0 ∧ sgn (if y = 0 then 0 else x.tmod y) < 0) (hp : 0 < sgn y) : x.tdiv y - 1 = x / y ∧ (if y = 0 then 0 else x.tmod y) + y = (if y = 0 then 0 else x % y) := by
  obtain ⟨hy, h⟩ := h
  rw [if_neg hy, sgn_lt] at h
  rw [if_neg hy, if_neg hy]
  exact ((tmod_cases x y).2 h).1 ((sgn_pos y).1 hp)
theorem euc2 {x y : Int} (h : y ≠ 0 ∧ sgn (if y = 0 then 0 else x.tmod y) < 0) (hp : sgn y ≤ 0) : x.tdiv y + 1 = x / y ∧ (if y = 0 then 0 else x.tmod y) - y = (if y = 0 then 0 else x % y) := by
  obtain ⟨hy, h⟩ := h
  rw [if_neg hy, sgn_lt] at h
  rw [if_neg hy, if_neg hy]
  refine ((tmod_cases x y).2 h).2 ?_
  rcases sgn_cases y with g | g | g <;> omega
theorem ex_no {x y : Int} (h : ¬ y ≠ 0 ∨ ¬ sgn (if y = 0 then 0 else x.tmod y) = 0) : ¬ (y ≠ 0 ∧ x.tmod y = 0) := by
  rintro ⟨h1, h2⟩
  rcases h with h | h
  · exact h h1
  · rw [if_neg h1, sgn_eq0] at h; exact h h2
theorem ex_yes {x y : Int} (h : y ≠ 0 ∧ sgn (if y = 0 then 0 else x.tmod y) = 0) : y ≠ 0 ∧ x.tmod y = 0 := by
  obtain ⟨h1, h2⟩ := h
  rw [if_neg h1, sgn_eq0] at h2
  exact ⟨h1, h2⟩
theorem nz_if (x y : Int) : (List.length (words (if y = 0 then 0 else x.tmod y).natAbs)) ≤ (List.length (words x.natAbs)) := by
  split
  · rw [Int.natAbs_zero, words_zero]; exact Nat.zero_le _
  · exact nz_tmod x y
theorem nz_one : (List.length (words (1 : Int).natAbs)) = 1 := nw_one
end Go.Nt
/- Whole numbers as a sign and digits; the reference for them. No program here. -/
namespace Go.Nt
def dv (n : Bool) (xs : List Nat) : Int := if n = true then -(dval xs : Int) else (dval xs : Int)
theorem dv_digs (m : Bool) (n : Nat) : dv m (digs n) = if m = true then -(n : Int) else (n : Int) := by unfold dv; rw [d_val_words]
theorem dv_abs (n : Bool) (xs : List Nat) : (dv n xs).natAbs = dval xs := by unfold dv; split <;> omega
theorem nd_pos {n : Nat} (h : n ≠ 0) : 0 < (List.length (digs n)) := by
  rcases Nat.eq_zero_or_pos ((List.length (digs n))) with e | e
  · have h2 : digs n = [] := List.eq_nil_of_length_eq_zero e
    have := d_val_words n
    rw [h2] at this; exact absurd this.symm h
  · exact e
theorem nd_zero : (List.length (digs 0)) = 0 := by rw [d_words_zero]; rfl
theorem norm_neg (m : Bool) (xs : List Nat) : (m && decide (0 < (((List.length (digs (dval xs))) : Nat) : Int))) = decide (dv m xs < 0) := by
  have e : decide (0 < (((List.length (digs (dval xs))) : Nat) : Int)) = decide (dval xs ≠ 0) := by
    apply decide_eq_decide.2
    constructor
    · intro h e; rw [e, nd_zero] at h; simp at h
    · intro h; have := nd_pos h; omega
  rw [e]
  unfold dv
  cases m
  · rw [if_neg (by decide), Bool.false_and]; exact (decide_eq_false (by omega)).symm
  · rw [if_pos rfl, Bool.true_and]; exact decide_eq_decide.2 (by omega)
theorem dsgn0 {x : Int} (h : (((List.length (digs x.natAbs)) : Nat) : Int) = 0) : 0 = sgn x := by
  have : x = 0 := by
    rcases Nat.eq_zero_or_pos x.natAbs with e | e
    · omega
    · have := nd_pos (n := x.natAbs) (by omega); omega
  subst this; rfl
theorem dsgn1 {x : Int} (h : ¬ (((List.length (digs x.natAbs)) : Nat) : Int) = 0) : x ≠ 0 := fun e => h (by rw [e]; show (((List.length (digs 0)) : Nat) : Int) = 0; rw [nd_zero]; rfl)
theorem dv_add_same {x y : Int} (h : (decide (x < 0) == decide (y < 0)) = true) : dv (decide (x < 0)) (digs (x.natAbs + y.natAbs)) = x + y := by
  have h2 : x < 0 ↔ y < 0 := by simpa using h
  rw [dv_digs]
  by_cases hx : x < 0
  · rw [decide_eq_true hx, if_pos rfl]; have := h2.1 hx; omega
  · rw [decide_eq_false hx, if_neg (by decide)]; have : ¬ y < 0 := fun e => hx (h2.2 e); omega
theorem dv_add_sub {x y : Int} (h : (decide (x < 0) == decide (y < 0)) = false) (hle : y.natAbs ≤ x.natAbs) : dv (decide (x < 0)) (digs (x.natAbs - y.natAbs)) = x + y := by
  have h2 : ¬ (x < 0 ↔ y < 0) := by simpa using h
  rw [dv_digs]
  by_cases hx : x < 0
  · rw [decide_eq_true hx, if_pos rfl]; have : ¬ y < 0 := fun e => h2 ⟨fun _ => e, fun _ => hx⟩; omega
  · rw [decide_eq_false hx, if_neg (by decide)]
    have : y < 0 := by
      rcases Int.lt_or_le y 0 with e | e
      · exact e
      · exact absurd ⟨fun a => absurd a hx, fun a => absurd a (by omega)⟩ h2
    omega
theorem dv_mul (x y : Int) : dv (!(decide (x < 0) == decide (y < 0))) (digs (x.natAbs * y.natAbs)) = x * y := by
  rw [dv_digs, Int.natCast_mul]
  have hx : (x.natAbs : Int) = if x < 0 then -x else x := by split <;> omega
  have hy : (y.natAbs : Int) = if y < 0 then -y else y := by split <;> omega
  rw [hx, hy]
  by_cases a : x < 0 <;> by_cases b : y < 0 <;> simp [a, b, Int.neg_mul, Int.mul_neg]
theorem dv_not (x : Int) : dv (!decide (x < 0)) (digs x.natAbs) = -x := by
  rw [dv_digs]
  by_cases h : x < 0
  · rw [decide_eq_true h, Bool.not_true, if_neg (by decide)]; omega
  · rw [decide_eq_false h, Bool.not_false, if_pos rfl]; omega
theorem nd_add_le (a b : Nat) : (List.length (digs (a + b))) ≤ max ((List.length (digs a))) ((List.length (digs b))) + 1 := by
  apply d_nw_le
  have h1 : a < D ^ max ((List.length (digs a))) ((List.length (digs b))) := d_lt_pow_of (Nat.le_max_left _ _)
  have h2 : b < D ^ max ((List.length (digs a))) ((List.length (digs b))) := d_lt_pow_of (Nat.le_max_right _ _)
  rw [Nat.pow_succ]
  have : 2 * D ^ max ((List.length (digs a))) ((List.length (digs b))) ≤ D ^ max ((List.length (digs a))) ((List.length (digs b))) * D := by rw [Nat.mul_comm]; exact Nat.mul_le_mul_left _ (by decide)
  omega
theorem nd_mul_le (a b : Nat) : (List.length (digs (a * b))) ≤ (List.length (digs a)) + (List.length (digs b)) := d_nw_le (by rw [Nat.pow_add]; exact Nat.mul_lt_mul_of_lt_of_lt (d_nw_lt a) (d_nw_lt b))
theorem zd_add (x y : Int) : (List.length (digs (x + y).natAbs)) ≤ max ((List.length (digs x.natAbs))) ((List.length (digs y.natAbs))) + 1 := Nat.le_trans (d_nw_mono (Int.natAbs_add_le x y)) (nd_add_le _ _)
theorem zd_sub (x y : Int) : (List.length (digs (x - y).natAbs)) ≤ max ((List.length (digs x.natAbs))) ((List.length (digs y.natAbs))) + 1 := by
  have := zd_add x (-y); rwa [Int.natAbs_neg, ← Int.sub_eq_add_neg] at this
theorem zd_mul (x y : Int) : (List.length (digs (x * y).natAbs)) ≤ (List.length (digs x.natAbs)) + (List.length (digs y.natAbs)) := by rw [Int.natAbs_mul]; exact nd_mul_le _ _
theorem zd_one : (List.length (digs (1 : Int).natAbs)) = 1 := by show (List.length (digs 1)) = 1; rw [one_digs]; rfl
/-- the quotient rounded down, by a number above 0 -/
theorem flo_pos {x y : Int} (hy : 0 < y) : (0 ≤ x → ((x.natAbs / y.natAbs : Nat) : Int) = x / y) ∧
    (x < 0 → (x.natAbs % y.natAbs = 0 → -((x.natAbs / y.natAbs : Nat) : Int) = x / y) ∧ (x.natAbs % y.natAbs ≠ 0 → -((x.natAbs / y.natAbs : Nat) : Int) - 1 = x / y)) := by
  obtain ⟨b, rfl⟩ : ∃ b : Nat, y = (b : Int) := ⟨y.toNat, by omega⟩
  rw [Int.natAbs_natCast]
  have hb : 0 < b := by omega
  constructor
  · intro h
    obtain ⟨a, rfl⟩ : ∃ a : Nat, x = (a : Int) := ⟨x.toNat, by omega⟩
    rw [Int.natAbs_natCast, Int.natCast_ediv]
  · intro h
    obtain ⟨a, ha, rfl⟩ : ∃ a : Nat, 0 < a ∧ x = -(a : Int) := ⟨x.natAbs, by omega, by omega⟩
    rw [Int.natAbs_neg, Int.natAbs_natCast]
    have e := Nat.div_add_mod a b
    have hm := Nat.mod_lt a hb
    have e' : (a : Int) = b * ((a / b : Nat) : Int) + ((a % b : Nat) : Int) := by rw [← Int.natCast_mul, ← Int.natCast_add, e]
    constructor
    · intro h0
      symm
      rw [h0] at e'
      rw [e']
      rw [Int.natCast_zero, Int.add_zero, ← Int.mul_neg]
      exact Int.mul_ediv_cancel_left _ (by omega)
    · intro h0
      symm
      have e2 : -(a : Int) = (b - ((a % b : Nat) : Int)) + b * (-((a / b : Nat) : Int) - 1) := by
        rw [Int.mul_sub, Int.mul_neg, Int.mul_one]; omega
      rw [e2, Int.add_mul_ediv_left _ _ (by omega), Int.ediv_eq_zero_of_lt (by omega) (by omega)]
      omega
theorem flo0 {x y : Int} (hy : 0 < y) (h : (decide (x < 0) == decide (y < 0)) = true) : dv (!(decide (x < 0) == decide (y < 0))) (digs (x.natAbs / y.natAbs)) = x / y := by
  have hx : 0 ≤ x := by
    have h2 : x < 0 ↔ y < 0 := by simpa using h
    rcases Int.lt_or_le x 0 with e | e
    · have := h2.1 e; omega
    · exact e
  rw [h, dv_digs, Bool.not_true, if_neg (by decide)]
  exact (flo_pos hy).1 hx
theorem flo1 {x y : Int} (hy : 0 < y) (h : (decide (x < 0) == decide (y < 0)) = false) (h0 : x.natAbs % y.natAbs = 0) : dv (!(decide (x < 0) == decide (y < 0))) (digs (x.natAbs / y.natAbs)) = x / y := by
  have hx : x < 0 := by
    rcases Int.lt_or_le x 0 with e | e
    · exact e
    · rw [decide_eq_false (by omega), decide_eq_false (by omega)] at h; simp at h
  rw [h, dv_digs, Bool.not_false, if_pos rfl]
  exact ((flo_pos hy).2 hx).1 h0
theorem flo2 {x y : Int} (hy : 0 < y) (h : (decide (x < 0) == decide (y < 0)) = false) (h0 : x.natAbs % y.natAbs ≠ 0) : dv (!(decide (x < 0) == decide (y < 0))) (digs (x.natAbs / y.natAbs)) - 1 = x / y := by
  have hx : x < 0 := by
    rcases Int.lt_or_le x 0 with e | e
    · exact e
    · rw [decide_eq_false (by omega), decide_eq_false (by omega)] at h; simp at h
  rw [h, dv_digs, Bool.not_false, if_pos rfl]
  exact ((flo_pos hy).2 hx).2 h0
theorem flo_sign {x y : Int} (hy : 0 < y) (h : (decide (x < 0) == decide (y < 0)) = true) : ¬ dv (!(decide (x < 0) == decide (y < 0))) (digs (x.natAbs / y.natAbs)) < 0 := by
  rw [h, dv_digs, Bool.not_true, if_neg (by decide)]; exact Int.not_lt.2 (Int.natCast_nonneg _)
theorem nd_rest0 {n : Nat} (h : (((List.length (digs n)) : Nat) : Int) ≤ 0) : n = 0 := by
  rcases Nat.eq_zero_or_pos n with e | e
  · exact e
  · have := nd_pos (n := n) (by omega); omega
theorem nd_rest1 {n : Nat} (h : 0 < (((List.length (digs n)) : Nat) : Int)) : n ≠ 0 := fun e => by rw [e, nd_zero] at h; simp at h
theorem flo_rest (x y : Int) : x - x / y * y = x % y := by have := Int.mul_ediv_add_emod x y; rw [Int.mul_comm]; omega
/-! ### lines of a product -/
def lineL (a b i k : Nat) : List Nat := List.replicate i 0 ++ (List.range k).map fun j => dg a j * dg b i
theorem lineL_len (a b i k : Nat) : (lineL a b i k).length = i + k := by simp [lineL]
theorem lineL_succ (a b i k : Nat) : lineL a b i (k + 1) = lineL a b i k ++ [dg a k * dg b i] := by simp [lineL, List.range_succ]
theorem lineL_zero (a b i : Nat) : lineL a b i 0 = List.replicate i 0 := by simp [lineL]
theorem dval_rep (k : Nat) : dval (List.replicate k 0) = 0 := d_val_replicate k
theorem dval_line (a b i : Nat) : ∀ k, dval (lineL a b i k) = D ^ i * (a % D ^ k * dg b i)
  | 0 => by rw [lineL_zero, dval_rep, Nat.pow_zero, Nat.mod_one, Nat.zero_mul, Nat.mul_zero]
  | k + 1 => by
    rw [lineL_succ, d_val_append, dval_line a b i k, lineL_len, d_mod_succ]
    simp only [dval, Nat.mul_zero, Nat.add_zero, Nat.add_mul, Nat.mul_add, Nat.pow_add, Nat.mul_assoc]
theorem lineL_le (a b i k : Nat) : ∀ x ∈ lineL a b i k, x ≤ 1099511627776 := by
  intro x hx
  rcases List.mem_append.1 hx with h | h
  · rw [(List.mem_replicate.1 h).2]; exact Nat.zero_le _
  · obtain ⟨j, _, rfl⟩ := List.mem_map.1 h
    have h1 := d_dig_lt a j
    have h2 := d_dig_lt b i
    have := Nat.mul_le_mul (Nat.le_of_lt h1) (Nat.le_of_lt h2)
    unfold D at *; omega
theorem line_sum {a b i k : Nat} (hk : (List.length (digs a)) ≤ k) : a * (b % D ^ i) + dval (lineL a b i k) = a * (b % D ^ (i + 1)) := by
  rw [dval_line, d_mod_succ, Nat.mul_add, Nat.mod_eq_of_lt (d_lt_pow_of hk)]
  rw [Nat.mul_left_comm]
theorem lineL_nd (a b i k : Nat) : (List.length (digs (dval (lineL a b i k)))) ≤ (List.length (digs a)) + (List.length (digs b)) := by
  refine Nat.le_trans (d_nw_mono ?_) (nd_mul_le a b)
  rw [dval_line, Nat.mul_left_comm]
  refine Nat.mul_le_mul (Nat.mod_le _ _) ?_
  have h1 := d_mod_succ b i
  have h2 := Nat.mod_le b (D ^ (i + 1))
  rw [h1] at h2
  exact Nat.le_trans (Nat.le_add_left _ _) h2
theorem mul_end {a b i : Nat} (h : (List.length (digs b)) ≤ i) : a * (b % D ^ i) = a * b := by rw [Nat.mod_eq_of_lt (d_lt_pow_of h)]
theorem mul_part (a b i : Nat) : (List.length (digs (a * (b % D ^ i)))) ≤ (List.length (digs a)) + (List.length (digs b)) := Nat.le_trans (d_nw_mono (Nat.mul_le_mul_left _ (Nat.mod_le _ _))) (nd_mul_le _ _)
theorem rep_succ (k : Nat) : List.replicate (k + 1) 0 = List.replicate k 0 ++ [0] := by rw [List.replicate_succ']
end Go.Nt
/- Inverses and powers by a modulus. No program here. -/
namespace Go.Nt
/-- what makes the greatest common divisor, as it is told -/
def xg (A B : Int) : Int := (cof A B 1 0).2 % ((B.natAbs : Int) / ((Nat.gcd A.natAbs B.natAbs : Nat) : Int))
theorem gcd_pos' {A B : Int} (h : B ≠ 0) : 0 < Nat.gcd A.natAbs B.natAbs := Nat.gcd_pos_of_pos_right _ (by omega)
theorem xg_step {A B : Int} (h : B ≠ 0) : (if (cof A B 1 0).1 ≠ 0 ∧ (((B.natAbs : Nat) : Int)).tmod (cof A B 1 0).1 = 0 then (((B.natAbs : Nat) : Int)).tdiv (cof A B 1 0).1 else 0) = (B.natAbs : Int) / ((Nat.gcd A.natAbs B.natAbs : Nat) : Int) := by
  have hg := gcd_pos' (A := A) h
  rw [(cof_all A B).1]
  have hd : B.natAbs % Nat.gcd A.natAbs B.natAbs = 0 := Nat.mod_eq_zero_of_dvd (Nat.gcd_dvd_right _ _)
  have h1 : (((B.natAbs : Nat) : Int)).tmod ((Nat.gcd A.natAbs B.natAbs : Nat) : Int) = 0 := by
    rw [← Int.ofNat_tmod, hd]; rfl
  rw [if_pos ⟨by omega, h1⟩, Int.tdiv_eq_ediv_of_nonneg (by omega)]
theorem step_pos {A B : Int} (h : B ≠ 0) : 0 < (B.natAbs : Int) / ((Nat.gcd A.natAbs B.natAbs : Nat) : Int) := by
  have hg := gcd_pos' (A := A) h
  rw [← Int.natCast_ediv]
  have : 0 < B.natAbs / Nat.gcd A.natAbs B.natAbs := Nat.div_pos (Nat.le_of_dvd (by omega) (Nat.gcd_dvd_right _ _)) hg
  omega
theorem step_le (A B : Int) : ((B.natAbs : Int) / ((Nat.gcd A.natAbs B.natAbs : Nat) : Int)).natAbs ≤ B.natAbs := by
  rw [← Int.natCast_ediv, Int.natAbs_natCast]; exact Nat.div_le_self _ _
theorem xg_le {A B : Int} (h : B ≠ 0) : (xg A B).natAbs ≤ B.natAbs := by
  have h1 := step_pos (A := A) h
  have h2 := step_le A B
  have h3 := Int.emod_nonneg (cof A B 1 0).2 (show (B.natAbs : Int) / ((Nat.gcd A.natAbs B.natAbs : Nat) : Int) ≠ 0 by omega)
  have h4 := Int.emod_lt_of_pos (cof A B 1 0).2 h1
  unfold xg; omega
def inv (A m : Int) : Int := xg A m % m
theorem inv_spec {A m : Int} (hm : 0 < m) (hg : Nat.gcd A.natAbs m.natAbs = 1) : 0 ≤ inv A m ∧ inv A m < m ∧ m ∣ A * inv A m - 1 := by
  refine ⟨Int.emod_nonneg _ (by omega), Int.emod_lt_of_pos _ hm, ?_⟩
  obtain ⟨h1, h2, _⟩ := cof_all A m
  rw [hg] at h1
  have e : xg A m = (cof A m 1 0).2 % m := by
    unfold xg; rw [hg]
    have : (m.natAbs : Int) / ((1 : Nat) : Int) = m := by rw [Int.natCast_one, Int.ediv_one]; omega
    rw [this]
  have e2 : inv A m = (cof A m 1 0).2 % m := by unfold inv; rw [e, Int.emod_emod_of_dvd _ (Int.dvd_refl m)]
  rw [e2]
  rw [h1] at h2
  obtain ⟨k, hk⟩ := h2
  have hq := Int.mul_ediv_add_emod (cof A m 1 0).2 m
  generalize (cof A m 1 0).2 = c at *
  refine ⟨-k - A * (c / m), ?_⟩
  have : c % m = c - m * (c / m) := by omega
  rw [this, Int.mul_sub, Int.mul_sub, Int.mul_neg, Int.mul_left_comm]
  have h3 : A * c = c * A := Int.mul_comm _ _
  have h4 : ((1 : Nat) : Int) = 1 := rfl
  omega
/-! ### powers -/
/-! ### Euclid's steps are few -/
/-! ### the elements of a field -/
theorem toNat_lt {z : Int} {p : Nat} (hp : 0 < p) : (z % (p : Int)).toNat < p := by
  have h1 := Int.emod_nonneg z (show (p : Int) ≠ 0 by omega)
  have h2 := Int.emod_lt_of_pos z (show 0 < (p : Int) by omega)
  omega
end Go.Nt
/- Whole numbers in the program: a sign and words. -/
namespace Go.En
open Go.RowKit Go.Nt
set_option linter.unusedVariables false
abbrev isZ (z : Int) : VP := Flat [isB (decide (z < 0)), SlM isU (words z.natAbs)]
abbrev zM (k : Nat) (z : Int) : Option Nat × MP := (some k, cellM [isB (decide (z < 0)), SlM isU (words z.natAbs)])
theorem isZ_eq {z z' : Int} (h : z = z') : isZ z = isZ z' := h ▸ rfl
theorem isZ_of {n : Bool} {xs : List Nat} {z : Int} (h : n = decide (z < 0)) (h2 : xs = words z.natAbs) : Flat [isB n, SlM isU xs] = isZ z := by subst h; subst h2; rfl
theorem isZ0 : Flat [isB false, SlM isU []] = isZ 0 := isZ_of (by decide) (by rw [Int.natAbs_zero, words_zero])
abbrev isR (z : Int) : VP := Flat [isB (decide (z < 0)), SlM isN (digs z.natAbs)]
theorem isR_eq {z z' : Int} (h : z = z') : isR z = isR z' := h ▸ rfl
theorem isR_of {n : Bool} {xs : List Nat} {z : Int} (h : n = decide (z < 0)) (h2 : xs = digs z.natAbs) : Flat [isB n, SlM isN xs] = isR z := by subst h; subst h2; rfl
section
variable {E : Env} {P : Program} {Γ : Ctx} {M : Mem} {x : Operand}
theorem Has.okZ {n : Bool} {xs : List Nat} (h : Has E Γ M x (Flat [isB n, SlM isU xs])) : ∀ a w F, Sat E Γ M a w F → (∀ y ∈ xs, y < 18446744073709551616) ∧ xs.length ≤ 9223372036854775807 := by
  intro a w F s
  obtain ⟨vs, e, hv⟩ := h a w F s
  obtain ⟨v, hv1, hv2⟩ := hv.get 1 (SlM isU xs) rfl
  obtain ⟨ad, cap, e, g1, g2, g3, g4⟩ := hv2
  refine ⟨fun y hy => ?_, by rw [maxLen_eq] at g2; omega⟩
  obtain ⟨i, hi, rfl⟩ := List.mem_iff_getElem.1 hy
  rcases g4 with g4 | ⟨b, off, _, _, vs, hv, _⟩
  · omega
  · obtain ⟨v, _, h2⟩ := hv.get i (isU xs[i]) (by simp [hi])
    exact h2.2
theorem Has.lt2 {a b : Nat} (h : Has E Γ M x (Flat [isU a, isU b])) : ∀ ac w F, Sat E Γ M ac w F → a < 18446744073709551616 ∧ b < 18446744073709551616 := by
  intro ac w F s
  obtain ⟨vs, e, hv⟩ := h ac w F s
  obtain ⟨v, hv1, hv2⟩ := hv.get 0 (isU a) rfl
  obtain ⟨v', hv3, hv4⟩ := hv.get 1 (isU b) rfl
  exact ⟨hv2.2, hv4.2⟩
end
end Go.En
/- Contracts: whole numbers. -/
namespace Go.Proofs.Ytbnhdbchoghkfaa
open Go.En Go.RowKit
set_option linter.unusedVariables false
set_option maxRecDepth 10000
open Go.Nt
set_option maxHeartbeats 4000000 in
theorem zint_From {xs : List Nat} {m : Bool} (hx : (List.length (words (val xs))) ≤ 4294967296) : Ctr Try.prog 16 [isWords xs, isB m] (isZ (zv m xs)) := by
  refine Ctr.intro Try.func16 rfl (by kernel_rfl) Try.ntmps16 rfl fun w0 F0 => ?_
  refine Tri.cv (Cv.wk (.cons (t := 0) (Has.t rfl) (.cons (t := 1) (Has.t rfl) .nil))) ?_
  refine Tri.fact (Has.lenLt (Has.t (t := 0) rfl)) fun lt0 => ?_
  refine Tri.fact (Has.okW (Has.t (t := 0) rfl)) fun ok0 => ?_
  refine Tri.seq fun K1 hK1 => ?_
  refine Tri.region ?_
  refine Ops.alloc [isB false, SlM isU []] zero27 (fun _ _ => ⟨rfl, nilM _ _, trivial⟩) rfl fun b1 => ?_
  refine nl ?_
  refine At.thn (hK1 _ _ ?_); clear hK1
  refine Tri.seq fun K2 hK2 => ?_
  refine Tri.region ?_
  refine st (OK1.mv (Has.t rfl)) rfl ?_
  refine st (OK1.call (nat_Norm (by with_reducible assumption)) (.cons (Has.t rfl) .nil)) rfl ?_
  refine st (OK1.as (Has.t rfl)) rfl ?_
  refine nl ?_
  refine At.thn (hK2 _ _ ?_); clear hK2
  refine Tri.seq fun K3 hK3 => ?_
  refine Tri.region ?_
  refine st (OK1.mv (Has.t rfl)) rfl ?_
  refine st (OK1.mv (Has.t rfl)) rfl ?_
  refine stT rfl rfl (fun hg => have hg' := BP.t hg; OK1.mv (Has.t rfl)) rfl ?_
  refine stT rfl rfl (fun hg => have hg' := BP.t hg; OK1.len sl25 (Has.g rfl hg)) rfl ?_
  refine stT rfl rfl (fun hg => have hg' := BP.t hg; OK1.gtI (Has.g rfl hg) (Has.cI 0 rfl)) rfl ?_
  refine st (OK1.pickAnd (Has.t rfl) (fun h => Has.g rfl h)) rfl ?_
  refine st (OK1.mv (Has.t rfl)) rfl ?_
  refine st (OK1.build [isB false, SlM isU []] pl27 zero27 (fun _ _ => ⟨rfl, nilM _ _, trivial⟩) (.cons (Has.t rfl) rfl rfl rfl (.cons (Has.t rfl) rfl rfl rfl .nil)) (Z'' := [_, _]) rfl) rfl ?_
  refine Ops.store (Has.t rfl) (Has.t rfl) (i := 0) rfl ty27 rfl rfl (Ss' := [_, _]) rfl (M' := [(some _, cellM [_, _])]) rfl ?_
  refine nl ?_
  refine At.thn (hK3 _ _ ?_); clear hK3
  refine Tri.cv (Cv.wk (.cons (t := 4) (Has.t rfl) .nil)) ?_
  refine Tri.ret ?_
  refine rt1 (.inl rfl) Try.results16 rfl (.cell rfl (i := 0) rfl ty27 rfl ?_ .nil)
  · exact isZ_of (from_neg m xs) (by rw [zv_abs])
set_option maxHeartbeats 4000000 in
theorem zint_Of {x : Int} : Ctr Try.prog 9 [isI x] (isZ x) := by
  refine Ctr.intro Try.func9 rfl (by kernel_rfl) Try.ntmps9 rfl fun w0 F0 => ?_
  refine Tri.cv (Cv.wk (.cons (t := 0) (Has.t rfl) .nil)) ?_
  refine Tri.fact (Has.rngI (Has.t (t := 0) rfl)) fun lt0 => ?_
  refine Tri.seq fun K1 hK1 => ?_
  refine Tri.region ?_
  refine Ops.alloc [isB false, SlM isU []] zero27 (fun _ _ => ⟨rfl, nilM _ _, trivial⟩) rfl fun b1 => ?_
  refine nl ?_
  refine At.thn (hK1 _ _ ?_); clear hK1
  refine Tri.seq fun K2 hK2 => ?_
  refine Tri.seq fun K3 hK3 => ?_
  refine Tri.region ?_
  refine st (OK1.mv (Has.t rfl)) rfl ?_
  refine st (OK1.ltI (Has.t rfl) (Has.cI 0 rfl)) rfl ?_
  refine nl ?_
  refine At.thn (hK3 _ _ ?_); clear hK3
  refine Tri.cond (Has.t rfl) (fun hc1 => ?_) (fun hc1 => ?_)
  · have hc1 := BP.t hc1
    have hN : x < 0 := hc1
    refine Tri.seq fun K4 hK4 => ?_
    refine Tri.region ?_
    refine st (OK1.mv (Has.t rfl)) rfl ?_
    refine st (OK1.convIUw un2 un62 (Has.t rfl)) rfl ?_
    refine st (OK1.eq (OK1.negU (Has.t rfl) (by omega)) ((show isU _ = isU x.natAbs from isU_eq (neg_word hc1 (by omega))))) rfl ?_
    refine st (OK1.call (nat_Of) (.cons (Has.t rfl) .nil)) rfl ?_
    refine st (OK1.call (zint_From (by simp only [val_words]; exact Nat.le_trans (nw_small' (by omega)) (by decide))) (.cons (Has.t rfl) (.cons (Has.cB true) .nil))) rfl ?_
    refine Ops.store (Has.t rfl) (Has.t rfl) (i := 0) rfl ty27 rfl rfl (Ss' := [_, _]) rfl (M' := [(some _, cellM [_, _])]) rfl ?_
    refine nl ?_
    refine At.thn (hK4 _ _ ?_); clear hK4
    refine Tri.cv (Cv.wk (.cons (t := 0) (Has.t rfl) (.cons (t := 2) (Has.t rfl) .nil))) ?_
    refine Tri.ret ?_
    refine At.thr ?_
    refine rt1 (.inl rfl) Try.results9 rfl (.cell rfl (i := 0) rfl ty27 rfl ?_ .nil)
    · exact isZ_eq (by rw [from_word, if_pos rfl]; omega)
  · have hc1 := BP.f hc1
    have hN : 0 ≤ x := (by omega)
    refine Tri.skip ?_
    refine At.thn (hK2 _ _ ?_); clear hK2
    refine Tri.seq fun K5 hK5 => ?_
    refine Tri.region ?_
    refine st (OK1.mv (Has.t rfl)) rfl ?_
    refine st (OK1.eq (OK1.convIU un2 un62 (Has.t rfl) (by with_reducible assumption) (by omega)) ((show isU _ = isU x.natAbs from isU_eq (by omega)))) rfl ?_
    refine st (OK1.call (nat_Of) (.cons (Has.t rfl) .nil)) rfl ?_
    refine st (OK1.call (zint_From (by simp only [val_words]; exact Nat.le_trans (nw_small' (by omega)) (by decide))) (.cons (Has.t rfl) (.cons (Has.cB false) .nil))) rfl ?_
    refine Ops.store (Has.t rfl) (Has.t rfl) (i := 0) rfl ty27 rfl rfl (Ss' := [_, _]) rfl (M' := [(some _, cellM [_, _])]) rfl ?_
    refine nl ?_
    refine At.thn (hK5 _ _ ?_); clear hK5
    refine Tri.cv (Cv.wk (.cons (t := 2) (Has.t rfl) .nil)) ?_
    refine Tri.ret ?_
    refine rt1 (.inl rfl) Try.results9 rfl (.cell rfl (i := 0) rfl ty27 rfl ?_ .nil)
    · exact isZ_eq (by rw [from_word, if_neg (by decide)]; omega)
set_option maxHeartbeats 4000000 in
theorem zint_Sign {m : Bool} {xs : List Nat} (hx : (List.length (words (val xs))) < 4294900000) : Ctr Try.prog 6 [Flat [isB m, isWords xs]] (isI (sgn (zv m xs))) := by
  refine Ctr.intro Try.func6 rfl (by kernel_rfl) Try.ntmps6 rfl fun w0 F0 => ?_
  refine Tri.cv (Cv.wk (.cons (t := 0) (Has.t rfl) .nil)) ?_
  refine Tri.fact (Has.okZ (Has.t (t := 0) rfl)) fun okz0 => ?_
  refine Tri.seq fun K1 hK1 => ?_
  refine Tri.region ?_
  refine Ops.box (Has.t rfl) rfl fun b1 => ?_
  refine st (OK1.as (Has.cI 0 rfl)) rfl ?_
  refine nl ?_
  refine At.thn (hK1 _ _ ?_); clear hK1
  refine Tri.seq fun K2 hK2 => ?_
  refine Tri.block ?_
  refine Tri.seq fun K3 hK3 => ?_
  refine Tri.region ?_
  refine st (OK1.fieldAddr (Has.t rfl) fld27_1 ty25) rfl ?_
  refine st (OK1.load1 (Has.t rfl) (i := 0) rfl ty25 rfl) rfl ?_
  refine st (OK1.call (nat_Bits (by omega)) (.cons (Has.t rfl) .nil)) rfl ?_
  refine st (OK1.eqI (Has.t rfl) (Has.cI 0 rfl)) rfl ?_
  refine st (OK1.as (Has.t rfl)) rfl ?_
  refine nl ?_
  refine At.thn (hK3 _ _ ?_); clear hK3
  refine Tri.cv (Cv.wk (.cons (t := 1) (Has.t rfl) (.cons (t := 2) (Has.t rfl) (.cons (t := 3) (Has.t rfl) .nil)))) ?_
  refine Tri.cond (Has.t rfl) (fun hc1 => ?_) (fun hc1 => ?_)
  · have hc1 := BP.t hc1
    refine Tri.seq fun K4 hK4 => ?_
    refine Tri.region ?_
    refine st (OK1.as (Has.cI 0 rfl)) rfl ?_
    refine nl ?_
    refine At.thn (hK4 _ _ ?_); clear hK4
    refine Tri.ret ?_
    refine At.blr ?_
    refine At.thr ?_
    refine rt1 (.inl rfl) Try.results6 rfl (.tmp (Has.t' rfl ?_) .nil)
    all_goals (exact isI_eq (sgn_zero hc1))
  · have hc1 := BP.f hc1
    refine Tri.seq fun K5 hK5 => ?_
    refine Tri.region ?_
    refine st (OK1.fieldAddr (Has.t rfl) fld27_0 ty4) rfl ?_
    refine st (OK1.load1 (Has.t rfl) (i := 0) rfl ty4 rfl) rfl ?_
    refine st (OK1.as (Has.t rfl)) rfl ?_
    refine nl ?_
    refine At.thn (hK5 _ _ ?_); clear hK5
    refine Tri.cond (Has.t rfl) (fun hc2 => ?_) (fun hc2 => ?_)
    · have hc2 := BP.t hc2
      have HM := hc2
      refine Tri.seq fun K6 hK6 => ?_
      refine Tri.region ?_
      refine st (OK1.as (Has.cI (-1) rfl)) rfl ?_
      refine nl ?_
      refine At.thn (hK6 _ _ ?_); clear hK6
      refine Tri.cv (Cv.wk (.cons (t := 2) (Has.t rfl) .nil)) ?_
      refine Tri.ret ?_
      refine At.blr ?_
      refine At.thr ?_
      refine rt1 (.inl rfl) Try.results6 rfl (.tmp (Has.t' rfl ?_) .nil)
      all_goals (exact isI_eq (by rw [← sgn_of hc1, if_pos HM]))
    · have hc2 := BP.f hc2
      have HM := hc2
      refine Tri.skip ?_
      refine At.bln ?_
      refine At.thn (hK2 _ _ ?_); clear hK2
      refine Tri.cv (Cv.wk (.cons (t := 2) (Has.t rfl) .nil)) ?_
      refine Tri.seq fun K7 hK7 => ?_
      refine Tri.region ?_
      refine st (OK1.as (Has.cI 1 rfl)) rfl ?_
      refine nl ?_
      refine At.thn (hK7 _ _ ?_); clear hK7
      refine Tri.ret ?_
      refine rt1 (.inl rfl) Try.results6 rfl (.tmp (Has.t' rfl ?_) .nil)
      all_goals (exact isI_eq (by rw [← sgn_of hc1, if_neg (by rw [HM]; decide)]))
set_option maxHeartbeats 4000000 in
theorem zint_Cmp {m n : Bool} {xs ys : List Nat} (hx : (List.length (words (val xs))) < 4294700000) (hy : (List.length (words (val ys))) < 4294700000) : Ctr Try.prog 31 [Flat [isB m, isWords xs], Flat [isB n, isWords ys]] (isI (cmpZ (zv m xs) (zv n ys))) := by
  refine Ctr.intro Try.func31 rfl (by kernel_rfl) Try.ntmps31 rfl fun w0 F0 => ?_
  refine Tri.cv (Cv.wk (.cons (t := 0) (Has.t rfl) (.cons (t := 1) (Has.t rfl) .nil))) ?_
  refine Tri.fact (Has.okZ (Has.t (t := 0) rfl)) fun okz0 => ?_
  refine Tri.fact (Has.okZ (Has.t (t := 1) rfl)) fun okz1 => ?_
  refine Tri.seq fun K1 hK1 => ?_
  refine Tri.region ?_
  refine Ops.box (Has.t rfl) rfl fun b1 => ?_
  refine Ops.box (Has.t rfl) rfl fun b2 => ?_
  refine st (OK1.as (Has.cI 0 rfl)) rfl ?_
  refine nl ?_
  refine At.thn (hK1 _ _ ?_); clear hK1
  refine Tri.seq fun K2 hK2 => ?_
  refine Tri.dr ?_
  refine DrG.st (i := 0) [] rfl rfl rfl (by kernel_rfl) (OKG.o rfl (OK1.load (Has.t rfl) (i := 1) rfl ty27 rfl (Ss' := [_, _]) rfl)) ?_
  refine DrG.st (i := 1) [7] rfl rfl rfl (by kernel_rfl) (OKG.o rfl (OK1.call (zint_Sign (by omega)) (.cons (Has.t rfl) .nil))) ?_
  refine DrG.st (i := 2) [] rfl rfl rfl (by kernel_rfl) (OKG.o rfl (OK1.load (Has.t rfl) (i := 0) rfl ty27 rfl (Ss' := [_, _]) rfl)) ?_
  refine DrG.fin (n := 3) mixed (by kernel_rfl) (by kernel_rfl) (by kernel_rfl) ?_
  refine Ops.cv (Cv.wk (.cons (t := 2) (Has.t rfl) (.cons (t := 3) (Has.t rfl) (.cons (t := 4) (Has.t rfl) (.cons (t := 8) (Has.t rfl) (.cons (t := 9) (Has.t rfl) .nil)))))) ?_
  refine st (OK1.call (zint_Sign (by omega)) (.cons (Has.t rfl) .nil)) rfl ?_
  refine st (OK1.as (Has.t rfl)) rfl ?_
  refine st (OK1.as (Has.t rfl)) rfl ?_
  refine nl ?_
  refine At.thn (hK2 _ _ ?_); clear hK2
  refine Tri.seq fun K3 hK3 => ?_
  refine Tri.block ?_
  refine Tri.seq fun K4 hK4 => ?_
  refine Tri.region ?_
  refine st (OK1.mv (Has.t rfl)) rfl ?_
  refine st (OK1.mv (Has.t rfl)) rfl ?_
  refine st (OK1.ltI (Has.t rfl) (Has.t rfl)) rfl ?_
  refine st (OK1.as (Has.t rfl)) rfl ?_
  refine nl ?_
  refine At.thn (hK4 _ _ ?_); clear hK4
  refine Tri.cv (Cv.wk (.cons (t := 2) (Has.t rfl) (.cons (t := 3) (Has.t rfl) (.cons (t := 4) (Has.t rfl) (.cons (t := 5) (Has.t rfl) (.cons (t := 6) (Has.t rfl) (.cons (t := 11) (Has.t rfl) .nil))))))) ?_
  refine Tri.cond (Has.t rfl) (fun hc1 => ?_) (fun hc1 => ?_)
  · have hc1 := BP.t hc1
    refine Tri.seq fun K5 hK5 => ?_
    refine Tri.region ?_
    refine st (OK1.as (Has.cI (-1) rfl)) rfl ?_
    refine nl ?_
    refine At.thn (hK5 _ _ ?_); clear hK5
    refine Tri.ret ?_
    refine At.blr ?_
    refine At.thr ?_
    refine rt1 (.inl rfl) Try.results31 rfl (.tmp (Has.t' rfl ?_) .nil)
    all_goals (exact isI_eq (cmpZ_lt hc1))
  · have hc1 := BP.f hc1
    refine Tri.seq fun K6 hK6 => ?_
    refine Tri.region ?_
    refine st (OK1.mv (Has.t rfl)) rfl ?_
    refine st (OK1.mv (Has.t rfl)) rfl ?_
    refine st (OK1.gtI (Has.t rfl) (Has.t rfl)) rfl ?_
    refine st (OK1.as (Has.t rfl)) rfl ?_
    refine nl ?_
    refine At.thn (hK6 _ _ ?_); clear hK6
    refine Tri.cv (Cv.wk (.cons (t := 2) (Has.t rfl) (.cons (t := 3) (Has.t rfl) (.cons (t := 4) (Has.t rfl) (.cons (t := 5) (Has.t rfl) (.cons (t := 15) (Has.t rfl) .nil)))))) ?_
    refine Tri.cond (Has.t rfl) (fun hc2 => ?_) (fun hc2 => ?_)
    · have hc2 := BP.t hc2
      refine Tri.seq fun K7 hK7 => ?_
      refine Tri.region ?_
      refine st (OK1.as (Has.cI 1 rfl)) rfl ?_
      refine nl ?_
      refine At.thn (hK7 _ _ ?_); clear hK7
      refine Tri.ret ?_
      refine At.blr ?_
      refine At.thr ?_
      refine rt1 (.inl rfl) Try.results31 rfl (.tmp (Has.t' rfl ?_) .nil)
      all_goals (exact isI_eq (cmpZ_gt hc2))
    · have hc2 := BP.f hc2
      refine Tri.seq fun K8 hK8 => ?_
      refine Tri.region ?_
      refine st (OK1.mv (Has.t rfl)) rfl ?_
      refine st (OK1.ltI (Has.t rfl) (Has.cI 0 rfl)) rfl ?_
      refine st (OK1.as (Has.t rfl)) rfl ?_
      refine nl ?_
      refine At.thn (hK8 _ _ ?_); clear hK8
      refine Tri.cond (Has.t rfl) (fun hc3 => ?_) (fun hc3 => ?_)
      · have hc3 := BP.t hc3
        refine Tri.seq fun K9 hK9 => ?_
        refine Tri.region ?_
        refine st (OK1.fieldAddr (Has.t rfl) fld27_1 ty25) rfl ?_
        refine st (OK1.load1 (Has.t rfl) (i := 0) rfl ty25 rfl) rfl ?_
        refine st (OK1.fieldAddr (Has.t rfl) fld27_1 ty25) rfl ?_
        refine st (OK1.load1 (Has.t rfl) (i := 1) rfl ty25 rfl) rfl ?_
        refine st (OK1.call (nat_Cmp) (.cons (Has.t rfl) (.cons (Has.t rfl) .nil))) rfl ?_
        refine st (OK1.as (Has.t rfl)) rfl ?_
        refine nl ?_
        refine At.thn (hK9 _ _ ?_); clear hK9
        refine Tri.cv (Cv.wk (.cons (t := 2) (Has.t rfl) (.cons (t := 3) (Has.t rfl) (.cons (t := 4) (Has.t rfl) .nil)))) ?_
        refine Tri.ret ?_
        refine At.blr ?_
        refine At.thr ?_
        refine rt1 (.inl rfl) Try.results31 rfl (.tmp (Has.t' rfl ?_) .nil)
        all_goals (exact isI_eq (cmpZ_neg hc3 (by omega) (by omega)))
      · have hc3 := BP.f hc3
        refine Tri.skip ?_
        refine At.bln ?_
        refine At.thn (hK3 _ _ ?_); clear hK3
        refine Tri.cv (Cv.wk (.cons (t := 2) (Has.t rfl) (.cons (t := 3) (Has.t rfl) (.cons (t := 4) (Has.t rfl) .nil)))) ?_
        refine Tri.seq fun K10 hK10 => ?_
        refine Tri.region ?_
        refine st (OK1.fieldAddr (Has.t rfl) fld27_1 ty25) rfl ?_
        refine st (OK1.load1 (Has.t rfl) (i := 1) rfl ty25 rfl) rfl ?_
        refine st (OK1.fieldAddr (Has.t rfl) fld27_1 ty25) rfl ?_
        refine st (OK1.load1 (Has.t rfl) (i := 0) rfl ty25 rfl) rfl ?_
        refine st (OK1.call (nat_Cmp) (.cons (Has.t rfl) (.cons (Has.t rfl) .nil))) rfl ?_
        refine st (OK1.as (Has.t rfl)) rfl ?_
        refine nl ?_
        refine At.thn (hK10 _ _ ?_); clear hK10
        refine Tri.cv (Cv.wk (.cons (t := 4) (Has.t rfl) .nil)) ?_
        refine Tri.ret ?_
        refine rt1 (.inl rfl) Try.results31 rfl (.tmp (Has.t' rfl ?_) .nil)
        all_goals (exact isI_eq (cmpZ_pos (by omega) (by omega) (by omega)))
set_option maxHeartbeats 4000000 in
theorem zint_Same {m n : Bool} {xs ys : List Nat} (hx : (List.length (words (val xs))) < 4294700000) (hy : (List.length (words (val ys))) < 4294700000) : Ctr Try.prog 12 [Flat [isB m, isWords xs], Flat [isB n, isWords ys]] (isB (decide (zv m xs = zv n ys))) := by
  refine Ctr.intro Try.func12 rfl (by kernel_rfl) Try.ntmps12 rfl fun w0 F0 => ?_
  refine Tri.cv (Cv.wk (.cons (t := 0) (Has.t rfl) (.cons (t := 1) (Has.t rfl) .nil))) ?_
  refine Tri.fact (Has.okZ (Has.t (t := 0) rfl)) fun okz0 => ?_
  refine Tri.fact (Has.okZ (Has.t (t := 1) rfl)) fun okz1 => ?_
  refine Tri.seq fun K1 hK1 => ?_
  refine Tri.region ?_
  refine Ops.box (Has.t rfl) rfl fun b1 => ?_
  refine Ops.box (Has.t rfl) rfl fun b2 => ?_
  refine st (OK1.as (Has.cB false)) rfl ?_
  refine nl ?_
  refine At.thn (hK1 _ _ ?_); clear hK1
  refine Tri.seq fun K2 hK2 => ?_
  refine Tri.region ?_
  refine st (OK1.load (Has.t rfl) (i := 1) rfl ty27 rfl (Ss' := [_, _]) rfl) rfl ?_
  refine st (OK1.load (Has.t rfl) (i := 0) rfl ty27 rfl (Ss' := [_, _]) rfl) rfl ?_
  refine st (OK1.call (zint_Cmp (by with_reducible assumption) (by with_reducible assumption)) (.cons (Has.t rfl) (.cons (Has.t rfl) .nil))) rfl ?_
  refine st (OK1.eqI (Has.t rfl) (Has.cI 0 rfl)) rfl ?_
  refine st (OK1.as (Has.t rfl)) rfl ?_
  refine nl ?_
  refine At.thn (hK2 _ _ ?_); clear hK2
  refine Tri.cv (Cv.wk (.cons (t := 4) (Has.t rfl) .nil)) ?_
  refine Tri.ret ?_
  refine rt1 (.inl rfl) Try.results12 rfl (.tmp (Has.t' rfl ?_) .nil)
  all_goals (exact isB_eq (cmpZ_eq0 _ _))
set_option maxHeartbeats 4000000 in
theorem zint_Neg {m : Bool} {xs : List Nat} (hx : (List.length (words (val xs))) < 4294900000) : Ctr Try.prog 64 [Flat [isB m, isWords xs]] (isZ (-(zv m xs))) := by
  refine Ctr.intro Try.func64 rfl (by kernel_rfl) Try.ntmps64 rfl fun w0 F0 => ?_
  refine Tri.cv (Cv.wk (.cons (t := 0) (Has.t rfl) .nil)) ?_
  refine Tri.fact (Has.okZ (Has.t (t := 0) rfl)) fun okz0 => ?_
  refine Tri.seq fun K1 hK1 => ?_
  refine Tri.region ?_
  refine Ops.box (Has.t rfl) rfl fun b1 => ?_
  refine Ops.alloc [isB false, SlM isU []] zero27 (fun _ _ => ⟨rfl, nilM _ _, trivial⟩) rfl fun b2 => ?_
  refine nl ?_
  refine At.thn (hK1 _ _ ?_); clear hK1
  refine Tri.seq fun K2 hK2 => ?_
  refine Tri.region ?_
  refine st (OK1.fieldAddr (Has.t rfl) fld27_1 ty25) rfl ?_
  refine st (OK1.load1 (Has.t rfl) (i := 1) rfl ty25 rfl) rfl ?_
  refine st (OK1.fieldAddr (Has.t rfl) fld27_0 ty4) rfl ?_
  refine st (OK1.load1 (Has.t rfl) (i := 1) rfl ty4 rfl) rfl ?_
  refine st (OK1.not (Has.t rfl)) rfl ?_
  refine st (OK1.call (zint_From (by omega)) (.cons (Has.t rfl) (.cons (Has.t rfl) .nil))) rfl ?_
  refine Ops.store (Has.t rfl) (Has.t rfl) (i := 0) rfl ty27 rfl rfl (Ss' := [_, _]) rfl (M' := [(some _, cellM [_, _]), _]) rfl ?_
  refine nl ?_
  refine At.thn (hK2 _ _ ?_); clear hK2
  refine Tri.cv (Cv.wk (.cons (t := 2) (Has.t rfl) .nil)) ?_
  refine Tri.ret ?_
  refine rt1 (.inl rfl) Try.results64 rfl (.cell rfl (i := 0) rfl ty27 rfl ?_ .nil)
  · exact isZ_eq (zv_not m xs)
set_option maxHeartbeats 4000000 in
theorem zint_Abs {m : Bool} {xs : List Nat} (hx : (List.length (words (val xs))) < 4294900000) : Ctr Try.prog 59 [Flat [isB m, isWords xs]] (isZ (((zv m xs).natAbs : Nat) : Int)) := by
  refine Ctr.intro Try.func59 rfl (by kernel_rfl) Try.ntmps59 rfl fun w0 F0 => ?_
  refine Tri.cv (Cv.wk (.cons (t := 0) (Has.t rfl) .nil)) ?_
  refine Tri.fact (Has.okZ (Has.t (t := 0) rfl)) fun okz0 => ?_
  refine Tri.seq fun K1 hK1 => ?_
  refine Tri.region ?_
  refine Ops.box (Has.t rfl) rfl fun b1 => ?_
  refine Ops.alloc [isB false, SlM isU []] zero27 (fun _ _ => ⟨rfl, nilM _ _, trivial⟩) rfl fun b2 => ?_
  refine nl ?_
  refine At.thn (hK1 _ _ ?_); clear hK1
  refine Tri.seq fun K2 hK2 => ?_
  refine Tri.region ?_
  refine st (OK1.fieldAddr (Has.t rfl) fld27_1 ty25) rfl ?_
  refine st (OK1.load1 (Has.t rfl) (i := 1) rfl ty25 rfl) rfl ?_
  refine st (OK1.call (zint_From (by omega)) (.cons (Has.t rfl) (.cons (Has.cB false) .nil))) rfl ?_
  refine Ops.store (Has.t rfl) (Has.t rfl) (i := 0) rfl ty27 rfl rfl (Ss' := [_, _]) rfl (M' := [(some _, cellM [_, _]), _]) rfl ?_
  refine nl ?_
  refine At.thn (hK2 _ _ ?_); clear hK2
  refine Tri.cv (Cv.wk (.cons (t := 2) (Has.t rfl) .nil)) ?_
  refine Tri.ret ?_
  refine rt1 (.inl rfl) Try.results59 rfl (.cell rfl (i := 0) rfl ty27 rfl ?_ .nil)
  · exact isZ_eq (by rw [zv_abs]; exact zv_false xs)
set_option maxHeartbeats 4000000 in
theorem zint_Add {m n : Bool} {xs ys : List Nat} (hx : (List.length (words (val xs))) < 4294700000) (hy : (List.length (words (val ys))) < 4294700000) : Ctr Try.prog 40 [Flat [isB m, isWords xs], Flat [isB n, isWords ys]] (isZ (zv m xs + zv n ys)) := by
  refine Ctr.intro Try.func40 rfl (by kernel_rfl) Try.ntmps40 rfl fun w0 F0 => ?_
  refine Tri.cv (Cv.wk (.cons (t := 0) (Has.t rfl) (.cons (t := 1) (Has.t rfl) .nil))) ?_
  refine Tri.fact (Has.okZ (Has.t (t := 0) rfl)) fun okz0 => ?_
  refine Tri.fact (Has.okZ (Has.t (t := 1) rfl)) fun okz1 => ?_
  have ha := nw_add_le (val xs) (val ys)
  have hb := nw_mono (Nat.sub_le (val xs) (val ys))
  have hd := nw_mono (Nat.sub_le (val ys) (val xs))
  refine Tri.seq fun K1 hK1 => ?_
  refine Tri.region ?_
  refine Ops.box (Has.t rfl) rfl fun b1 => ?_
  refine Ops.box (Has.t rfl) rfl fun b2 => ?_
  refine Ops.alloc [isB false, SlM isU []] zero27 (fun _ _ => ⟨rfl, nilM _ _, trivial⟩) rfl fun b3 => ?_
  refine nl ?_
  refine At.thn (hK1 _ _ ?_); clear hK1
  refine Tri.seq fun K2 hK2 => ?_
  refine Tri.seq fun K3 hK3 => ?_
  refine Tri.region ?_
  refine st (OK1.fieldAddr (Has.t rfl) fld27_0 ty4) rfl ?_
  refine st (OK1.load1 (Has.t rfl) (i := 2) rfl ty4 rfl) rfl ?_
  refine st (OK1.fieldAddr (Has.t rfl) fld27_0 ty4) rfl ?_
  refine st (OK1.load1 (Has.t rfl) (i := 1) rfl ty4 rfl) rfl ?_
  refine st (OK1.eqB (du := un4) rfl (Has.t rfl) (Has.t rfl)) rfl ?_
  refine nl ?_
  refine At.thn (hK3 _ _ ?_); clear hK3
  refine Tri.cv (Cv.wk (.cons (t := 2) (Has.t rfl) (.cons (t := 3) (Has.t rfl) (.cons (t := 4) (Has.t rfl) (.cons (t := 13) (Has.t rfl) .nil))))) ?_
  refine Tri.cond (Has.t rfl) (fun hc1 => ?_) (fun hc1 => ?_)
  · have hc1 := BP.t hc1
    have HM : m = n := eq_of_beq hc1
    refine Tri.seq fun K4 hK4 => ?_
    refine Tri.dr ?_
    refine DrG.st (i := 0) [] rfl rfl rfl (by kernel_rfl) (OKG.o rfl (OK1.fieldAddr (Has.t rfl) fld27_1 ty25)) ?_
    refine DrG.st (i := 1) [14] rfl rfl rfl (by kernel_rfl) (OKG.o rfl (OK1.load1 (Has.t rfl) (i := 2) rfl ty25 rfl)) ?_
    refine DrG.st (i := 2) [] rfl rfl rfl (by kernel_rfl) (OKG.o rfl (OK1.fieldAddr (Has.t rfl) fld27_1 ty25)) ?_
    refine DrG.st (i := 3) [16] rfl rfl rfl (by kernel_rfl) (OKG.o rfl (OK1.load1 (Has.t rfl) (i := 1) rfl ty25 rfl)) ?_
    refine DrG.st (i := 4) [15, 17] rfl rfl rfl (by kernel_rfl) (OKG.o rfl (OK1.call (nat_Add (by omega) (by omega)) (.cons (Has.t rfl) (.cons (Has.t rfl) .nil)))) ?_
    refine DrG.st (i := 5) [] rfl rfl rfl (by kernel_rfl) (OKG.o rfl (OK1.fieldAddr (Has.t rfl) fld27_0 ty4)) ?_
    refine DrG.st (i := 6) [19] rfl rfl rfl (by kernel_rfl) (OKG.o rfl (OK1.load1 (Has.t rfl) (i := 2) rfl ty4 rfl)) ?_
    refine DrG.fin (n := 7) mixed (by kernel_rfl) (by kernel_rfl) (by kernel_rfl) ?_
    refine Ops.cv (Cv.wk (.cons (t := 2) (Has.t rfl) (.cons (t := 3) (Has.t rfl) (.cons (t := 4) (Has.t rfl) (.cons (t := 18) (Has.t rfl) (.cons (t := 20) (Has.t rfl) .nil)))))) ?_
    refine st (OK1.call (zint_From (by simp only [val_words, zv_nf]; omega)) (.cons (Has.t rfl) (.cons (Has.t rfl) .nil))) rfl ?_
    refine Ops.store (Has.t rfl) (Has.t rfl) (i := 0) rfl ty27 rfl rfl (Ss' := [_, _]) rfl (M' := [(some _, cellM [_, _]), _, _]) rfl ?_
    refine nl ?_
    refine At.thn (hK4 _ _ ?_); clear hK4
    refine Tri.ret ?_
    refine At.thr ?_
    refine rt1 (.inl rfl) Try.results40 rfl (.cell rfl (i := 0) rfl ty27 rfl ?_ .nil)
    · exact isZ_eq (zv_add_same HM xs ys).symm
  · have hc1 := BP.f hc1
    have HM : m ≠ n := fun e => by rw [e] at hc1; simp at hc1
    refine Tri.skip ?_
    refine At.thn (hK2 _ _ ?_); clear hK2
    refine Tri.seq fun K5 hK5 => ?_
    refine Tri.seq fun K6 hK6 => ?_
    refine Tri.region ?_
    refine st (OK1.fieldAddr (Has.t rfl) fld27_1 ty25) rfl ?_
    refine st (OK1.load1 (Has.t rfl) (i := 2) rfl ty25 rfl) rfl ?_
    refine st (OK1.fieldAddr (Has.t rfl) fld27_1 ty25) rfl ?_
    refine st (OK1.load1 (Has.t rfl) (i := 1) rfl ty25 rfl) rfl ?_
    refine st (OK1.call (nat_Sub (by omega)) (.cons (Has.t rfl) (.cons (Has.t rfl) .nil))) rfl ?_
    refine st (OK1.mv (Has.t rfl)) rfl ?_
    refine st (OK1.ext (Has.t rfl) rfl) rfl ?_
    refine st (OK1.ext (Has.t rfl) rfl) rfl ?_
    refine st (OK1.as (Has.t rfl)) rfl ?_
    refine st (OK1.as (Has.t rfl)) rfl ?_
    refine nl ?_
    refine At.thn (hK6 _ _ ?_); clear hK6
    refine Tri.cv (Cv.wk (.cons (t := 2) (Has.t rfl) (.cons (t := 3) (Has.t rfl) (.cons (t := 4) (Has.t rfl) (.cons (t := 5) (Has.t rfl) (.cons (t := 6) (Has.t rfl) .nil)))))) ?_
    refine Tri.seq fun K7 hK7 => ?_
    refine Tri.region ?_
    refine st (OK1.mv (Has.t rfl)) rfl ?_
    refine nl ?_
    refine At.thn (hK7 _ _ ?_); clear hK7
    refine Tri.cond (Has.t rfl) (fun hc2 => ?_) (fun hc2 => ?_)
    · have hc2 := BP.t hc2
      have HL : val ys ≤ val xs := hc2
      refine Tri.seq fun K8 hK8 => ?_
      refine Tri.region ?_
      refine st (OK1.mv (Has.t rfl)) rfl ?_
      refine st (OK1.fieldAddr (Has.t rfl) fld27_0 ty4) rfl ?_
      refine st (OK1.load1 (Has.t rfl) (i := 2) rfl ty4 rfl) rfl ?_
      refine st (OK1.call (zint_From (by simp only [val_words, zv_nf]; omega)) (.cons (Has.t rfl) (.cons (Has.t rfl) .nil))) rfl ?_
      refine Ops.store (Has.t rfl) (Has.t rfl) (i := 0) rfl ty27 rfl rfl (Ss' := [_, _]) rfl (M' := [(some _, cellM [_, _]), _, _]) rfl ?_
      refine nl ?_
      refine At.thn (hK8 _ _ ?_); clear hK8
      refine Tri.cv (Cv.wk (.cons (t := 2) (Has.t rfl) (.cons (t := 3) (Has.t rfl) (.cons (t := 4) (Has.t rfl) .nil)))) ?_
      refine Tri.ret ?_
      refine At.thr ?_
      refine rt1 (.inl rfl) Try.results40 rfl (.cell rfl (i := 0) rfl ty27 rfl ?_ .nil)
      · exact isZ_eq (zv_add_sub HM HL).symm
    · have hc2 := BP.f hc2
      have HL : ¬ val ys ≤ val xs := (by omega)
      refine Tri.skip ?_
      refine At.thn (hK5 _ _ ?_); clear hK5
      refine Tri.seq fun K9 hK9 => ?_
      refine Tri.region ?_
      refine st (OK1.fieldAddr (Has.t rfl) fld27_1 ty25) rfl ?_
      refine st (OK1.load1 (Has.t rfl) (i := 1) rfl ty25 rfl) rfl ?_
      refine st (OK1.fieldAddr (Has.t rfl) fld27_1 ty25) rfl ?_
      refine st (OK1.load1 (Has.t rfl) (i := 2) rfl ty25 rfl) rfl ?_
      refine st (OK1.call (nat_Sub (by omega)) (.cons (Has.t rfl) (.cons (Has.t rfl) .nil))) rfl ?_
      refine st (OK1.mv (Has.t rfl)) rfl ?_
      refine st (OK1.ext (Has.t rfl) rfl) rfl ?_
      refine st (OK1.ext (Has.t rfl) rfl) rfl ?_
      refine st (OK1.as (Has.t rfl)) rfl ?_
      refine st (OK1.as (Has.t rfl)) rfl ?_
      refine nl ?_
      refine At.thn (hK9 _ _ ?_); clear hK9
      refine Tri.cv (Cv.wk (.cons (t := 3) (Has.t rfl) (.cons (t := 4) (Has.t rfl) (.cons (t := 7) (Has.t rfl) .nil)))) ?_
      refine Tri.seq fun K10 hK10 => ?_
      refine Tri.region ?_
      refine st (OK1.mv (Has.t rfl)) rfl ?_
      refine st (OK1.fieldAddr (Has.t rfl) fld27_0 ty4) rfl ?_
      refine st (OK1.load1 (Has.t rfl) (i := 1) rfl ty4 rfl) rfl ?_
      refine st (OK1.call (zint_From (by simp only [val_words, zv_nf]; omega)) (.cons (Has.t rfl) (.cons (Has.t rfl) .nil))) rfl ?_
      refine Ops.store (Has.t rfl) (Has.t rfl) (i := 0) rfl ty27 rfl rfl (Ss' := [_, _]) rfl (M' := [(some _, cellM [_, _]), _, _]) rfl ?_
      refine nl ?_
      refine At.thn (hK10 _ _ ?_); clear hK10
      refine Tri.cv (Cv.wk (.cons (t := 4) (Has.t rfl) .nil)) ?_
      refine Tri.ret ?_
      refine rt1 (.inl rfl) Try.results40 rfl (.cell rfl (i := 0) rfl ty27 rfl ?_ .nil)
      · exact isZ_eq (by rw [Int.add_comm]; exact (zv_add_sub (fun e => HM e.symm) (by omega)).symm)
set_option maxHeartbeats 4000000 in
theorem zint_Sub {m n : Bool} {xs ys : List Nat} (hx : (List.length (words (val xs))) < 4294700000) (hy : (List.length (words (val ys))) < 4294700000) : Ctr Try.prog 39 [Flat [isB m, isWords xs], Flat [isB n, isWords ys]] (isZ (zv m xs - zv n ys)) := by
  refine Ctr.intro Try.func39 rfl (by kernel_rfl) Try.ntmps39 rfl fun w0 F0 => ?_
  refine Tri.cv (Cv.wk (.cons (t := 0) (Has.t rfl) (.cons (t := 1) (Has.t rfl) .nil))) ?_
  refine Tri.fact (Has.okZ (Has.t (t := 0) rfl)) fun okz0 => ?_
  refine Tri.fact (Has.okZ (Has.t (t := 1) rfl)) fun okz1 => ?_
  refine Tri.seq fun K1 hK1 => ?_
  refine Tri.region ?_
  refine Ops.box (Has.t rfl) rfl fun b1 => ?_
  refine Ops.box (Has.t rfl) rfl fun b2 => ?_
  refine Ops.alloc [isB false, SlM isU []] zero27 (fun _ _ => ⟨rfl, nilM _ _, trivial⟩) rfl fun b3 => ?_
  refine nl ?_
  refine At.thn (hK1 _ _ ?_); clear hK1
  refine Tri.seq fun K2 hK2 => ?_
  refine Tri.dr ?_
  refine DrG.st (i := 0) [] rfl rfl rfl (by kernel_rfl) (OKG.o rfl (OK1.load (Has.t rfl) (i := 2) rfl ty27 rfl (Ss' := [_, _]) rfl)) ?_
  refine DrG.st (i := 1) [] rfl rfl rfl (by kernel_rfl) (OKG.o rfl (OK1.load (Has.t rfl) (i := 1) rfl ty27 rfl (Ss' := [_, _]) rfl)) ?_
  refine DrG.st (i := 2) [6] rfl rfl rfl (by kernel_rfl) (OKG.o rfl (OK1.call (zint_Neg (by omega)) (.cons (Has.t rfl) .nil))) ?_
  refine DrG.fin (n := 3) mixed (by kernel_rfl) (by kernel_rfl) (by kernel_rfl) ?_
  refine Ops.cv (Cv.wk (.cons (t := 4) (Has.t rfl) (.cons (t := 5) (Has.t rfl) (.cons (t := 7) (Has.t rfl) .nil)))) ?_
  refine st (OK1.call (zint_Add (by omega) (by simp only [val_words]; rw [Int.natAbs_neg, zv_abs]; omega)) (.cons (Has.t rfl) (.cons (Has.t rfl) .nil))) rfl ?_
  refine Ops.store (Has.t rfl) (Has.t rfl) (i := 0) rfl ty27 rfl rfl (Ss' := [_, _]) rfl (M' := [(some _, cellM [_, _]), _, _]) rfl ?_
  refine nl ?_
  refine At.thn (hK2 _ _ ?_); clear hK2
  refine Tri.ret ?_
  refine rt1 (.inl rfl) Try.results39 rfl (.cell rfl (i := 0) rfl ty27 rfl ?_ .nil)
  · exact isZ_eq (by rw [zv_nf]; omega)
set_option maxHeartbeats 4000000 in
theorem zint_Mul {m n : Bool} {xs ys : List Nat} (hx : (List.length (words (val xs))) ≤ 1000000000) (hy : (List.length (words (val ys))) ≤ 1000000000) : Ctr Try.prog 11 [Flat [isB m, isWords xs], Flat [isB n, isWords ys]] (isZ (zv m xs * zv n ys)) := by
  refine Ctr.intro Try.func11 rfl (by kernel_rfl) Try.ntmps11 rfl fun w0 F0 => ?_
  refine Tri.cv (Cv.wk (.cons (t := 0) (Has.t rfl) (.cons (t := 1) (Has.t rfl) .nil))) ?_
  refine Tri.fact (Has.okZ (Has.t (t := 0) rfl)) fun okz0 => ?_
  refine Tri.fact (Has.okZ (Has.t (t := 1) rfl)) fun okz1 => ?_
  have hm := nw_mul_le (val xs) (val ys)
  refine Tri.seq fun K1 hK1 => ?_
  refine Tri.region ?_
  refine Ops.box (Has.t rfl) rfl fun b1 => ?_
  refine Ops.box (Has.t rfl) rfl fun b2 => ?_
  refine Ops.alloc [isB false, SlM isU []] zero27 (fun _ _ => ⟨rfl, nilM _ _, trivial⟩) rfl fun b3 => ?_
  refine nl ?_
  refine At.thn (hK1 _ _ ?_); clear hK1
  refine Tri.seq fun K2 hK2 => ?_
  refine Tri.dr ?_
  refine DrG.st (i := 0) [] rfl rfl rfl (by kernel_rfl) (OKG.o rfl (OK1.fieldAddr (Has.t rfl) fld27_1 ty25)) ?_
  refine DrG.st (i := 1) [5] rfl rfl rfl (by kernel_rfl) (OKG.o rfl (OK1.load1 (Has.t rfl) (i := 2) rfl ty25 rfl)) ?_
  refine DrG.st (i := 2) [] rfl rfl rfl (by kernel_rfl) (OKG.o rfl (OK1.fieldAddr (Has.t rfl) fld27_1 ty25)) ?_
  refine DrG.st (i := 3) [7] rfl rfl rfl (by kernel_rfl) (OKG.o rfl (OK1.load1 (Has.t rfl) (i := 1) rfl ty25 rfl)) ?_
  refine DrG.st (i := 4) [6, 8] rfl rfl rfl (by kernel_rfl) (OKG.o rfl (OK1.call (mul_Mul hx hy) (.cons (Has.t rfl) (.cons (Has.t rfl) .nil)))) ?_
  refine DrG.st (i := 5) [] rfl rfl rfl (by kernel_rfl) (OKG.o rfl (OK1.fieldAddr (Has.t rfl) fld27_0 ty4)) ?_
  refine DrG.st (i := 6) [10] rfl rfl rfl (by kernel_rfl) (OKG.o rfl (OK1.load1 (Has.t rfl) (i := 2) rfl ty4 rfl)) ?_
  refine DrG.st (i := 7) [] rfl rfl rfl (by kernel_rfl) (OKG.o rfl (OK1.fieldAddr (Has.t rfl) fld27_0 ty4)) ?_
  refine DrG.st (i := 8) [12] rfl rfl rfl (by kernel_rfl) (OKG.o rfl (OK1.load1 (Has.t rfl) (i := 1) rfl ty4 rfl)) ?_
  refine DrG.st (i := 9) [11, 13] rfl rfl rfl (by kernel_rfl) (OKG.o rfl (OK1.neB (du := un4) rfl (Has.t rfl) (Has.t rfl))) ?_
  refine DrG.fin (n := 10) mixed (by kernel_rfl) (by kernel_rfl) (by kernel_rfl) ?_
  refine Ops.cv (Cv.wk (.cons (t := 4) (Has.t rfl) (.cons (t := 9) (Has.t rfl) (.cons (t := 14) (Has.t rfl) .nil)))) ?_
  refine st (OK1.call (zint_From (by simp only [val_words, zv_nf]; omega)) (.cons (Has.t rfl) (.cons (Has.t rfl) .nil))) rfl ?_
  refine Ops.store (Has.t rfl) (Has.t rfl) (i := 0) rfl ty27 rfl rfl (Ss' := [_, _]) rfl (M' := [(some _, cellM [_, _]), _, _]) rfl ?_
  refine nl ?_
  refine At.thn (hK2 _ _ ?_); clear hK2
  refine Tri.ret ?_
  refine rt1 (.inl rfl) Try.results11 rfl (.cell rfl (i := 0) rfl ty27 rfl ?_ .nil)
  · exact isZ_eq (zv_mul m n xs ys).symm
set_option maxHeartbeats 4000000 in
theorem zint_Quo {m n : Bool} {xs ys : List Nat} (hx : (List.length (words (val xs))) < 4294700000) (hy : (List.length (words (val ys))) < 4294700000) : Ctr Try.prog 29 [Flat [isB m, isWords xs], Flat [isB n, isWords ys]] (isTup [isZ ((zv m xs).tdiv (zv n ys)), isZ (if zv n ys = 0 then 0 else (zv m xs).tmod (zv n ys)), isB (decide (zv n ys ≠ 0))]) := by
  refine Ctr.intro Try.func29 rfl (by kernel_rfl) Try.ntmps29 rfl fun w0 F0 => ?_
  refine Tri.cv (Cv.wk (.cons (t := 0) (Has.t rfl) (.cons (t := 1) (Has.t rfl) .nil))) ?_
  refine Tri.fact (Has.okZ (Has.t (t := 0) rfl)) fun okz0 => ?_
  refine Tri.fact (Has.okZ (Has.t (t := 1) rfl)) fun okz1 => ?_
  have ha := nw_mono (Nat.div_le_self (val xs) (val ys))
  have hb : (List.length (words (if val ys = 0 then 0 else val xs % val ys))) ≤ (List.length (words (val xs))) := nw_mono (by split; exact Nat.zero_le _; exact Nat.mod_le _ _)
  refine Tri.seq fun K1 hK1 => ?_
  refine Tri.region ?_
  refine Ops.box (Has.t rfl) rfl fun b1 => ?_
  refine Ops.box (Has.t rfl) rfl fun b2 => ?_
  refine Ops.alloc [isB false, SlM isU []] zero27 (fun _ _ => ⟨rfl, nilM _ _, trivial⟩) rfl fun b3 => ?_
  refine Ops.alloc [isB false, SlM isU []] zero27 (fun _ _ => ⟨rfl, nilM _ _, trivial⟩) rfl fun b4 => ?_
  refine st (OK1.as (Has.cB false)) rfl ?_
  refine nl ?_
  refine At.thn (hK1 _ _ ?_); clear hK1
  refine Tri.seq fun K2 hK2 => ?_
  refine Tri.region ?_
  refine st (OK1.fieldAddr (Has.t rfl) fld27_1 ty25) rfl ?_
  refine st (OK1.load1 (Has.t rfl) (i := 3) rfl ty25 rfl) rfl ?_
  refine st (OK1.fieldAddr (Has.t rfl) fld27_1 ty25) rfl ?_
  refine st (OK1.load1 (Has.t rfl) (i := 2) rfl ty25 rfl) rfl ?_
  refine st (OK1.call (div_DivMod (by omega) (by omega)) (.cons (Has.t rfl) (.cons (Has.t rfl) .nil))) rfl ?_
  refine st (OK1.mv (Has.t rfl)) rfl ?_
  refine st (OK1.ext (Has.t rfl) rfl) rfl ?_
  refine st (OK1.ext (Has.t rfl) rfl) rfl ?_
  refine st (OK1.ext (Has.t rfl) rfl) rfl ?_
  refine st (OK1.as (Has.t rfl)) rfl ?_
  refine st (OK1.as (Has.t rfl)) rfl ?_
  refine st (OK1.as (Has.t rfl)) rfl ?_
  refine nl ?_
  refine At.thn (hK2 _ _ ?_); clear hK2
  refine Tri.cv (Cv.wk (.cons (t := 2) (Has.t rfl) (.cons (t := 3) (Has.t rfl) (.cons (t := 4) (Has.t rfl) (.cons (t := 5) (Has.t rfl) (.cons (t := 6) (Has.t rfl) (.cons (t := 7) (Has.t rfl) (.cons (t := 8) (Has.t rfl) (.cons (t := 9) (Has.t rfl) .nil))))))))) ?_
  refine Tri.seq fun K3 hK3 => ?_
  refine Tri.drh [false, false, true, true] (Ms := [_, _]) rfl ?_
  refine DrH.st (i := 0) [] rfl rfl rfl (by kernel_rfl) (OKG.o rfl (OK1.mv (Has.t rfl))) ?_
  refine DrH.st (i := 1) [] rfl rfl rfl (by kernel_rfl) (OKG.o rfl (OK1.fieldAddr (Has.t rfl) fld27_0 ty4)) ?_
  refine DrH.st (i := 2) [20] rfl rfl rfl (by kernel_rfl) (OKG.o rfl (OK1.load1 (Has.t rfl) (i := 1) rfl ty4 rfl)) ?_
  refine DrH.st (i := 3) [] rfl rfl rfl (by kernel_rfl) (OKG.o rfl (OK1.fieldAddr (Has.t rfl) fld27_0 ty4)) ?_
  refine DrH.st (i := 4) [22] rfl rfl rfl (by kernel_rfl) (OKG.o rfl (OK1.load1 (Has.t rfl) (i := 0) rfl ty4 rfl)) ?_
  refine DrH.st (i := 5) [21, 23] rfl rfl rfl (by kernel_rfl) (OKG.o rfl (OK1.neB (du := un4) rfl (Has.t rfl) (Has.t rfl))) ?_
  refine DrH.st (i := 6) [19, 24] rfl rfl rfl (by kernel_rfl) (OKG.o rfl (OK1.call (zint_From (by simp only [val_words, zv_nf]; omega)) (.cons (Has.t rfl) (.cons (Has.t rfl) .nil)))) ?_
  refine DrH.st (i := 7) [] rfl rfl rfl (by kernel_rfl) (OKG.o rfl (OK1.mv (Has.t rfl))) ?_
  refine DrH.st (i := 8) [] rfl rfl rfl (by kernel_rfl) (OKG.o rfl (OK1.fieldAddr (Has.t rfl) fld27_0 ty4)) ?_
  refine DrH.st (i := 9) [27] rfl rfl rfl (by kernel_rfl) (OKG.o rfl (OK1.load1 (Has.t rfl) (i := 1) rfl ty4 rfl)) ?_
  refine DrH.st (i := 10) [26, 28] rfl rfl rfl (by kernel_rfl) (OKG.o rfl (OK1.call (zint_From (by simp only [val_words, zv_nf]; omega)) (.cons (Has.t rfl) (.cons (Has.t rfl) .nil)))) ?_
  refine DrH.st (i := 11) [] rfl rfl rfl (by kernel_rfl) (OKG.o rfl (OK1.mv (Has.t rfl))) ?_
  refine DrH.mid2 (.cons _ (.cons _ (.cons_cons _ (.cons_cons _ .slnil)))) ?_
  refine DrN2.st0 [25] rfl rfl (by kernel_rfl) (by kernel_rfl) (StS.store (Has.t rfl) (Has.t rfl) (i := 1) rfl ty27 rfl rfl (Ss' := [_, _]) rfl (M' := [_, (some _, cellM [_, _]), _, _]) rfl) (.cons _ (.cons _ (.cons_cons _ (.cons_cons _ .slnil)))) ?_
  refine DrN2.st0 [29] rfl rfl (by kernel_rfl) (by kernel_rfl) (StS.store (Has.t rfl) (Has.t rfl) (i := 0) rfl ty27 rfl rfl (Ss' := [_, _]) rfl (M' := [(some _, cellM [_, _]), _, _, _]) rfl) (.cons _ (.cons _ (.cons_cons _ (.cons_cons _ .slnil)))) ?_
  refine DrN2.fin0 (n := 14) mixed rfl (by kernel_rfl) (by kernel_rfl) (by kernel_rfl) ?_
  refine Ops.cv (Cv.wk (.cons (t := 4) (Has.t rfl) (.cons (t := 5) (Has.t rfl) (.cons (t := 6) (Has.t rfl) (.cons (t := 30) (Has.t rfl) .nil))))) ?_
  refine st (OK1.as (Has.t rfl)) rfl ?_
  refine nl ?_
  refine At.thn (hK3 _ _ ?_); clear hK3
  refine Tri.ret ?_
  refine rtN (.inl rfl) Try.results29 rfl rfl (.cell rfl (i := 1) rfl ty27 rfl ?_ (.cell rfl (i := 0) rfl ty27 rfl ?_ (.tmp (Has.t' rfl ?_) .nil)))
  · exact isZ_eq (zv_tdiv m n xs ys).symm
  · exact isZ_eq (quo_rest m n xs ys)
  · exact isB_eq (ne_zv n ys)
set_option maxHeartbeats 4000000 in
theorem zint_one  : Ctr Try.prog 61 [] (isZ 1) := by
  refine Ctr.intro Try.func61 rfl (by kernel_rfl) Try.ntmps61 rfl fun w0 F0 => ?_
  refine Tri.cv (Cv.wk .nil) ?_
  refine Tri.seq fun K1 hK1 => ?_
  refine Tri.region ?_
  refine Ops.alloc [isB false, SlM isU []] zero27 (fun _ _ => ⟨rfl, nilM _ _, trivial⟩) rfl fun b1 => ?_
  refine nl ?_
  refine At.thn (hK1 _ _ ?_); clear hK1
  refine Tri.seq fun K2 hK2 => ?_
  refine Tri.region ?_
  refine st (OK1.call (zint_Of) (.cons (Has.cI 1 rfl) .nil)) rfl ?_
  refine Ops.store (Has.t rfl) (Has.t rfl) (i := 0) rfl ty27 rfl rfl (Ss' := [_, _]) rfl (M' := [(some _, cellM [_, _])]) rfl ?_
  refine nl ?_
  refine At.thn (hK2 _ _ ?_); clear hK2
  refine Tri.ret ?_
  refine rt1 (.inl rfl) Try.results61 rfl (.cell rfl (i := 0) rfl ty27 rfl ?_ .nil)
  all_goals (rfl)
set_option maxHeartbeats 4000000 in
theorem zint_Euclid {m n : Bool} {xs ys : List Nat} (hx : (List.length (words (val xs))) < 4294700000) (hy : (List.length (words (val ys))) < 4294700000) : Ctr Try.prog 35 [Flat [isB m, isWords xs], Flat [isB n, isWords ys]] (isTup [isZ (zv m xs / zv n ys), isZ (if zv n ys = 0 then 0 else zv m xs % zv n ys), isB (decide (zv n ys ≠ 0))]) := by
  refine Ctr.intro Try.func35 rfl (by kernel_rfl) Try.ntmps35 rfl fun w0 F0 => ?_
  refine Tri.cv (Cv.wk (.cons (t := 0) (Has.t rfl) (.cons (t := 1) (Has.t rfl) .nil))) ?_
  refine Tri.fact (Has.okZ (Has.t (t := 0) rfl)) fun okz0 => ?_
  refine Tri.fact (Has.okZ (Has.t (t := 1) rfl)) fun okz1 => ?_
  have ha := nz_tdiv (zv m xs) (zv n ys)
  have hb := nz_if (zv m xs) (zv n ys)
  have hxx := zv_nw m xs
  have hyy := zv_nw n ys
  have h1 := nz_one
  refine Tri.seq fun K1 hK1 => ?_
  refine Tri.region ?_
  refine Ops.box (Has.t rfl) rfl fun b1 => ?_
  refine Ops.box (Has.t rfl) rfl fun b2 => ?_
  refine Ops.alloc [isB false, SlM isU []] zero27 (fun _ _ => ⟨rfl, nilM _ _, trivial⟩) rfl fun b3 => ?_
  refine Ops.alloc [isB false, SlM isU []] zero27 (fun _ _ => ⟨rfl, nilM _ _, trivial⟩) rfl fun b4 => ?_
  refine st (OK1.as (Has.cB false)) rfl ?_
  refine nl ?_
  refine At.thn (hK1 _ _ ?_); clear hK1
  refine Tri.seq fun K2 hK2 => ?_
  refine Tri.region ?_
  refine st (OK1.load (Has.t rfl) (i := 3) rfl ty27 rfl (Ss' := [_, _]) rfl) rfl ?_
  refine st (OK1.load (Has.t rfl) (i := 2) rfl ty27 rfl (Ss' := [_, _]) rfl) rfl ?_
  refine st (OK1.call (zint_Quo (by with_reducible assumption) (by with_reducible assumption)) (.cons (Has.t rfl) (.cons (Has.t rfl) .nil))) rfl ?_
  refine st (OK1.mv (Has.t rfl)) rfl ?_
  refine st (OK1.ext (Has.t rfl) rfl) rfl ?_
  refine st (OK1.ext (Has.t rfl) rfl) rfl ?_
  refine st (OK1.ext (Has.t rfl) rfl) rfl ?_
  refine Ops.alloc [isB false, SlM isU []] zero27 (fun _ _ => ⟨rfl, nilM _ _, trivial⟩) rfl fun b5 => ?_
  refine Ops.alloc [isB false, SlM isU []] zero27 (fun _ _ => ⟨rfl, nilM _ _, trivial⟩) rfl fun b6 => ?_
  refine Ops.store (Has.t rfl) (Has.t rfl) (i := 1) rfl ty27 rfl rfl (Ss' := [_, _]) rfl (M' := [_, (some _, cellM [_, _]), _, _, _, _]) rfl ?_
  refine Ops.store (Has.t rfl) (Has.t rfl) (i := 0) rfl ty27 rfl rfl (Ss' := [_, _]) rfl (M' := [(some _, cellM [_, _]), _, _, _, _, _]) rfl ?_
  refine st (OK1.as (Has.t rfl)) rfl ?_
  refine nl ?_
  refine At.thn (hK2 _ _ ?_); clear hK2
  refine Tri.cv (Cv.wk (.cons (t := 3) (Has.t rfl) (.cons (t := 4) (Has.t rfl) (.cons (t := 5) (Has.t rfl) (.cons (t := 6) (Has.t rfl) (.cons (t := 7) (Has.t rfl) (.cons (t := 8) (Has.t rfl) (.cons (t := 9) (Has.t rfl) .nil)))))))) ?_
  refine Tri.seq fun K3 hK3 => ?_
  refine Tri.block ?_
  refine Tri.seq fun K4 hK4 => ?_
  refine Tri.region ?_
  refine st (OK1.mv (Has.t rfl)) rfl ?_
  refine st (OK1.not (Has.t rfl)) rfl ?_
  refine st (OK1.mv (Has.t rfl)) rfl ?_
  refine stF rfl rfl (fun hg => have hg' := BP.t hg; OK1.load (Has.t rfl) (i := 0) rfl ty27 rfl (Ss' := [_, _]) rfl) rfl ?_
  refine stF rfl rfl (fun hg => have hg' := BP.t hg; OK1.eq (OK1.call (zint_Sign (by simp only [val_words, zv_nf]; omega)) (.cons (Has.g rfl hg) .nil)) (by simp only [val_words, zv_nf]; rfl)) rfl ?_
  refine stF rfl rfl (fun hg => have hg' := BP.t hg; OK1.geI (Has.g rfl hg) (Has.cI 0 rfl)) rfl ?_
  refine st (OK1.pickOr (Has.t rfl) (fun h => Has.g rfl (ng h))) rfl ?_
  refine st (OK1.as (Has.t rfl)) rfl ?_
  refine nl ?_
  refine At.thn (hK4 _ _ ?_); clear hK4
  refine Tri.cv (Cv.wk (.cons (t := 3) (Has.t rfl) (.cons (t := 4) (Has.t rfl) (.cons (t := 5) (Has.t rfl) (.cons (t := 6) (Has.t rfl) (.cons (t := 7) (Has.t rfl) (.cons (t := 8) (Has.t rfl) (.cons (t := 9) (Has.t rfl) (.cons (t := 17) (Has.t rfl) .nil))))))))) ?_
  refine Tri.cond (Has.t rfl) (fun hc1 => ?_) (fun hc1 => ?_)
  · have hc1 := BP.t hc1
    have HE := euc0 hc1
    refine Tri.seq fun K5 hK5 => ?_
    refine Tri.drh [true, true, false, false, true, true] (Ms := [_, _, _, _]) rfl ?_
    refine DrH.st (i := 0) [] rfl rfl rfl (by kernel_rfl) (OKG.o rfl (OK1.load (Has.t rfl) (i := 1) rfl ty27 rfl (Ss' := [_, _]) rfl)) ?_
    refine DrH.st (i := 1) [] rfl rfl rfl (by kernel_rfl) (OKG.o rfl (OK1.load (Has.t rfl) (i := 0) rfl ty27 rfl (Ss' := [_, _]) rfl)) ?_
    refine DrH.st (i := 2) [] rfl rfl rfl (by kernel_rfl) (OKG.o rfl (OK1.mv (Has.t rfl))) ?_
    refine DrH.mid2 (.cons_cons _ (.cons_cons _ (.cons _ (.cons _ (.cons_cons _ (.cons_cons _ .slnil)))))) ?_
    refine DrN2.st0 [25] rfl rfl (by kernel_rfl) (by kernel_rfl) (StS.store (Has.t rfl) (Has.t rfl) (i := 3) rfl ty27 rfl rfl (Ss' := [_, _]) rfl (M' := [_, _, _, (some _, cellM [_, _]), _, _]) rfl) (.cons_cons _ (.cons_cons _ (.cons _ (.cons _ (.cons_cons _ (.cons_cons _ .slnil)))))) ?_
    refine DrN2.st0 [26] rfl rfl (by kernel_rfl) (by kernel_rfl) (StS.store (Has.t rfl) (Has.t rfl) (i := 2) rfl ty27 rfl rfl (Ss' := [_, _]) rfl (M' := [_, _, (some _, cellM [_, _]), _, _, _]) rfl) (.cons_cons _ (.cons_cons _ (.cons _ (.cons _ (.cons_cons _ (.cons_cons _ .slnil)))))) ?_
    refine DrN2.fin0 (n := 5) mixed rfl (by kernel_rfl) (by kernel_rfl) (by kernel_rfl) ?_
    refine Ops.cv (Cv.wk (.cons (t := 3) (Has.t rfl) (.cons (t := 4) (Has.t rfl) (.cons (t := 5) (Has.t rfl) (.cons (t := 6) (Has.t rfl) (.cons (t := 7) (Has.t rfl) (.cons (t := 8) (Has.t rfl) (.cons (t := 27) (Has.t rfl) .nil)))))))) ?_
    refine st (OK1.as (Has.t rfl)) rfl ?_
    refine nl ?_
    refine At.thn (hK5 _ _ ?_); clear hK5
    refine Tri.ret ?_
    refine At.blr ?_
    refine At.thr ?_
    refine rtN (.inl rfl) Try.results35 rfl rfl (.cell rfl (i := 3) rfl ty27 rfl ?_ (.cell rfl (i := 2) rfl ty27 rfl ?_ (.tmp (Has.t' rfl ?_) .nil)))
    · exact isZ_eq HE.1
    · exact isZ_eq HE.2
    · rfl
  · have hc1 := BP.f hc1
    have HE := hc1
    refine Tri.seq fun K6 hK6 => ?_
    refine Tri.region ?_
    refine st (OK1.load (Has.t rfl) (i := 4) rfl ty27 rfl (Ss' := [_, _]) rfl) rfl ?_
    refine st (OK1.call (zint_Sign (by omega)) (.cons (Has.t rfl) .nil)) rfl ?_
    refine st (OK1.gtI (Has.t rfl) (Has.cI 0 rfl)) rfl ?_
    refine st (OK1.as (Has.t rfl)) rfl ?_
    refine nl ?_
    refine At.thn (hK6 _ _ ?_); clear hK6
    refine Tri.cv (Cv.wk (.cons (t := 3) (Has.t rfl) (.cons (t := 4) (Has.t rfl) (.cons (t := 5) (Has.t rfl) (.cons (t := 6) (Has.t rfl) (.cons (t := 7) (Has.t rfl) (.cons (t := 8) (Has.t rfl) (.cons (t := 28) (Has.t rfl) .nil)))))))) ?_
    refine Tri.cond (Has.t rfl) (fun hc2 => ?_) (fun hc2 => ?_)
    · have hc2 := BP.t hc2
      have HE2 := euc1 HE hc2
      refine Tri.seq fun K7 hK7 => ?_
      refine Tri.dr ?_
      refine DrG.st (i := 0) [] rfl rfl rfl (by kernel_rfl) (OKG.o rfl (OK1.load (Has.t rfl) (i := 1) rfl ty27 rfl (Ss' := [_, _]) rfl)) ?_
      refine DrG.st (i := 1) [] rfl rfl rfl (by kernel_rfl) (OKG.o rfl (OK1.call (zint_one) .nil)) ?_
      refine DrG.st (i := 2) [32, 33] rfl rfl rfl (by kernel_rfl) (OKG.o rfl (OK1.eq (OK1.call (zint_Sub (by simp only [val_words, zv_nf]; omega) (by simp only [val_words, zv_nf]; omega)) (.cons (Has.t rfl) (.cons (Has.t rfl) .nil))) (by simp only [val_words, zv_nf]; rfl))) ?_
      refine DrG.st (i := 3) [] rfl rfl rfl (by kernel_rfl) (OKG.o rfl (OK1.load (Has.t rfl) (i := 0) rfl ty27 rfl (Ss' := [_, _]) rfl)) ?_
      refine DrG.st (i := 4) [] rfl rfl rfl (by kernel_rfl) (OKG.o rfl (OK1.load (Has.t rfl) (i := 4) rfl ty27 rfl (Ss' := [_, _]) rfl)) ?_
      refine DrG.fin (n := 5) mixed (by kernel_rfl) (by kernel_rfl) (by kernel_rfl) ?_
      refine Ops.cv (Cv.wk (.cons (t := 3) (Has.t rfl) (.cons (t := 4) (Has.t rfl) (.cons (t := 5) (Has.t rfl) (.cons (t := 6) (Has.t rfl) (.cons (t := 7) (Has.t rfl) (.cons (t := 8) (Has.t rfl) (.cons (t := 34) (Has.t rfl) (.cons (t := 35) (Has.t rfl) (.cons (t := 36) (Has.t rfl) .nil)))))))))) ?_
      refine st (OK1.eq (OK1.call (zint_Add (by simp only [val_words, zv_nf]; omega) (by with_reducible assumption)) (.cons (Has.t rfl) (.cons (Has.t rfl) .nil))) (by simp only [val_words, zv_nf]; rfl)) rfl ?_
      refine Ops.store (Has.t rfl) (Has.t rfl) (i := 3) rfl ty27 rfl rfl (Ss' := [_, _]) rfl (M' := [_, _, _, (some _, cellM [_, _]), _, _]) rfl ?_
      refine Ops.store (Has.t rfl) (Has.t rfl) (i := 2) rfl ty27 rfl rfl (Ss' := [_, _]) rfl (M' := [_, _, (some _, cellM [_, _]), _, _, _]) rfl ?_
      refine st (OK1.as (Has.cB true)) rfl ?_
      refine nl ?_
      refine At.thn (hK7 _ _ ?_); clear hK7
      refine Tri.ret ?_
      refine At.blr ?_
      refine At.thr ?_
      refine rtN (.inl rfl) Try.results35 rfl rfl (.cell rfl (i := 3) rfl ty27 rfl ?_ (.cell rfl (i := 2) rfl ty27 rfl ?_ (.tmp (Has.t' rfl ?_) .nil)))
      · exact isZ_eq HE2.1
      · exact isZ_eq HE2.2
      · exact isB_eq (decide_eq_true HE.1).symm
    · have hc2 := BP.f hc2
      have HE2 := euc2 HE hc2
      refine Tri.skip ?_
      refine At.bln ?_
      refine At.thn (hK3 _ _ ?_); clear hK3
      refine Tri.seq fun K8 hK8 => ?_
      refine Tri.dr ?_
      refine DrG.st (i := 0) [] rfl rfl rfl (by kernel_rfl) (OKG.o rfl (OK1.load (Has.t rfl) (i := 1) rfl ty27 rfl (Ss' := [_, _]) rfl)) ?_
      refine DrG.st (i := 1) [] rfl rfl rfl (by kernel_rfl) (OKG.o rfl (OK1.call (zint_one) .nil)) ?_
      refine DrG.st (i := 2) [38, 39] rfl rfl rfl (by kernel_rfl) (OKG.o rfl (OK1.eq (OK1.call (zint_Add (by simp only [val_words, zv_nf]; omega) (by simp only [val_words, zv_nf]; omega)) (.cons (Has.t rfl) (.cons (Has.t rfl) .nil))) (by simp only [val_words, zv_nf]; rfl))) ?_
      refine DrG.st (i := 3) [] rfl rfl rfl (by kernel_rfl) (OKG.o rfl (OK1.load (Has.t rfl) (i := 0) rfl ty27 rfl (Ss' := [_, _]) rfl)) ?_
      refine DrG.st (i := 4) [] rfl rfl rfl (by kernel_rfl) (OKG.o rfl (OK1.load (Has.t rfl) (i := 4) rfl ty27 rfl (Ss' := [_, _]) rfl)) ?_
      refine DrG.fin (n := 5) mixed (by kernel_rfl) (by kernel_rfl) (by kernel_rfl) ?_
      refine Ops.cv (Cv.wk (.cons (t := 4) (Has.t rfl) (.cons (t := 5) (Has.t rfl) (.cons (t := 6) (Has.t rfl) (.cons (t := 40) (Has.t rfl) (.cons (t := 41) (Has.t rfl) (.cons (t := 42) (Has.t rfl) .nil))))))) ?_
      refine st (OK1.eq (OK1.call (zint_Sub (by simp only [val_words, zv_nf]; omega) (by with_reducible assumption)) (.cons (Has.t rfl) (.cons (Has.t rfl) .nil))) (by simp only [val_words, zv_nf]; rfl)) rfl ?_
      refine Ops.store (Has.t rfl) (Has.t rfl) (i := 3) rfl ty27 rfl rfl (Ss' := [_, _]) rfl (M' := [_, _, _, (some _, cellM [_, _]), _, _]) rfl ?_
      refine Ops.store (Has.t rfl) (Has.t rfl) (i := 2) rfl ty27 rfl rfl (Ss' := [_, _]) rfl (M' := [_, _, (some _, cellM [_, _]), _, _, _]) rfl ?_
      refine st (OK1.as (Has.cB true)) rfl ?_
      refine nl ?_
      refine At.thn (hK8 _ _ ?_); clear hK8
      refine Tri.ret ?_
      refine rtN (.inl rfl) Try.results35 rfl rfl (.cell rfl (i := 3) rfl ty27 rfl ?_ (.cell rfl (i := 2) rfl ty27 rfl ?_ (.tmp (Has.t' rfl ?_) .nil)))
      · exact isZ_eq HE2.1
      · exact isZ_eq HE2.2
      · exact isB_eq (decide_eq_true HE.1).symm
set_option maxHeartbeats 4000000 in
theorem zint_Exact {m n : Bool} {xs ys : List Nat} (hx : (List.length (words (val xs))) < 4294700000) (hy : (List.length (words (val ys))) < 4294700000) : Ctr Try.prog 10 [Flat [isB m, isWords xs], Flat [isB n, isWords ys]] (isTup [isZ (if zv n ys ≠ 0 ∧ (zv m xs).tmod (zv n ys) = 0 then (zv m xs).tdiv (zv n ys) else 0), isB (decide (zv n ys ≠ 0 ∧ (zv m xs).tmod (zv n ys) = 0))]) := by
  refine Ctr.intro Try.func10 rfl (by kernel_rfl) Try.ntmps10 rfl fun w0 F0 => ?_
  refine Tri.cv (Cv.wk (.cons (t := 0) (Has.t rfl) (.cons (t := 1) (Has.t rfl) .nil))) ?_
  refine Tri.fact (Has.okZ (Has.t (t := 0) rfl)) fun okz0 => ?_
  refine Tri.fact (Has.okZ (Has.t (t := 1) rfl)) fun okz1 => ?_
  have ha := nz_tdiv (zv m xs) (zv n ys)
  have hb := nz_if (zv m xs) (zv n ys)
  have hxx := zv_nw m xs
  have hyy := zv_nw n ys
  have h1 := nz_one
  refine Tri.seq fun K1 hK1 => ?_
  refine Tri.region ?_
  refine Ops.box (Has.t rfl) rfl fun b1 => ?_
  refine Ops.box (Has.t rfl) rfl fun b2 => ?_
  refine Ops.alloc [isB false, SlM isU []] zero27 (fun _ _ => ⟨rfl, nilM _ _, trivial⟩) rfl fun b3 => ?_
  refine st (OK1.as (Has.cB false)) rfl ?_
  refine nl ?_
  refine At.thn (hK1 _ _ ?_); clear hK1
  refine Tri.seq fun K2 hK2 => ?_
  refine Tri.region ?_
  refine st (OK1.load (Has.t rfl) (i := 2) rfl ty27 rfl (Ss' := [_, _]) rfl) rfl ?_
  refine st (OK1.load (Has.t rfl) (i := 1) rfl ty27 rfl (Ss' := [_, _]) rfl) rfl ?_
  refine st (OK1.call (zint_Quo (by with_reducible assumption) (by with_reducible assumption)) (.cons (Has.t rfl) (.cons (Has.t rfl) .nil))) rfl ?_
  refine st (OK1.mv (Has.t rfl)) rfl ?_
  refine st (OK1.ext (Has.t rfl) rfl) rfl ?_
  refine st (OK1.ext (Has.t rfl) rfl) rfl ?_
  refine st (OK1.ext (Has.t rfl) rfl) rfl ?_
  refine Ops.alloc [isB false, SlM isU []] zero27 (fun _ _ => ⟨rfl, nilM _ _, trivial⟩) rfl fun b4 => ?_
  refine Ops.alloc [isB false, SlM isU []] zero27 (fun _ _ => ⟨rfl, nilM _ _, trivial⟩) rfl fun b5 => ?_
  refine Ops.store (Has.t rfl) (Has.t rfl) (i := 1) rfl ty27 rfl rfl (Ss' := [_, _]) rfl (M' := [_, (some _, cellM [_, _]), _, _, _]) rfl ?_
  refine Ops.store (Has.t rfl) (Has.t rfl) (i := 0) rfl ty27 rfl rfl (Ss' := [_, _]) rfl (M' := [(some _, cellM [_, _]), _, _, _, _]) rfl ?_
  refine st (OK1.as (Has.t rfl)) rfl ?_
  refine nl ?_
  refine At.thn (hK2 _ _ ?_); clear hK2
  refine Tri.cv (Cv.wk (.cons (t := 4) (Has.t rfl) (.cons (t := 5) (Has.t rfl) (.cons (t := 6) (Has.t rfl) (.cons (t := 7) (Has.t rfl) (.cons (t := 8) (Has.t rfl) .nil)))))) ?_
  refine Tri.seq fun K3 hK3 => ?_
  refine Tri.seq fun K4 hK4 => ?_
  refine Tri.region ?_
  refine st (OK1.mv (Has.t rfl)) rfl ?_
  refine st (OK1.not (Has.t rfl)) rfl ?_
  refine st (OK1.mv (Has.t rfl)) rfl ?_
  refine stF rfl rfl (fun hg => have hg' := BP.t hg; OK1.load (Has.t rfl) (i := 0) rfl ty27 rfl (Ss' := [_, _]) rfl) rfl ?_
  refine stF rfl rfl (fun hg => have hg' := BP.t hg; OK1.eq (OK1.call (zint_Sign (by simp only [val_words, zv_nf]; omega)) (.cons (Has.g rfl hg) .nil)) (by simp only [val_words, zv_nf]; rfl)) rfl ?_
  refine stF rfl rfl (fun hg => have hg' := BP.t hg; OK1.neI (Has.g rfl hg) (Has.cI 0 rfl)) rfl ?_
  refine st (OK1.pickOr (Has.t rfl) (fun h => Has.g rfl (ng h))) rfl ?_
  refine nl ?_
  refine At.thn (hK4 _ _ ?_); clear hK4
  refine Tri.cv (Cv.wk (.cons (t := 4) (Has.t rfl) (.cons (t := 5) (Has.t rfl) (.cons (t := 6) (Has.t rfl) (.cons (t := 22) (Has.t rfl) .nil))))) ?_
  refine Tri.cond (Has.t rfl) (fun hc1 => ?_) (fun hc1 => ?_)
  · have hc1 := BP.t hc1
    have HE := ex_no hc1
    refine Tri.seq fun K5 hK5 => ?_
    refine Tri.region ?_
    refine st (OK1.eq (OK1.build [isB false, SlM isU []] pl27 zero27 (fun _ _ => ⟨rfl, nilM _ _, trivial⟩) .nil (Z'' := [_, _]) rfl) (isZ0)) rfl ?_
    refine Ops.store (Has.t rfl) (Has.t rfl) (i := 2) rfl ty27 rfl rfl (Ss' := [_, _]) rfl (M' := [_, _, (some _, cellM [_, _]), _, _]) rfl ?_
    refine st (OK1.as (Has.cB false)) rfl ?_
    refine nl ?_
    refine At.thn (hK5 _ _ ?_); clear hK5
    refine Tri.ret ?_
    refine At.thr ?_
    refine rtN (.inl rfl) Try.results10 rfl rfl (.cell rfl (i := 2) rfl ty27 rfl ?_ (.tmp (Has.t' rfl ?_) .nil))
    · exact isZ_eq (if_neg HE).symm
    · exact isB_eq (decide_eq_false HE).symm
  · have hc1 := BP.f hc1
    have HE := ex_yes hc1
    refine Tri.skip ?_
    refine At.thn (hK3 _ _ ?_); clear hK3
    refine Tri.seq fun K6 hK6 => ?_
    refine Tri.region ?_
    refine st (OK1.load (Has.t rfl) (i := 1) rfl ty27 rfl (Ss' := [_, _]) rfl) rfl ?_
    refine Ops.store (Has.t rfl) (Has.t rfl) (i := 2) rfl ty27 rfl rfl (Ss' := [_, _]) rfl (M' := [_, _, (some _, cellM [_, _]), _, _]) rfl ?_
    refine st (OK1.as (Has.cB true)) rfl ?_
    refine nl ?_
    refine At.thn (hK6 _ _ ?_); clear hK6
    refine Tri.ret ?_
    refine rtN (.inl rfl) Try.results10 rfl rfl (.cell rfl (i := 2) rfl ty27 rfl ?_ (.tmp (Has.t' rfl ?_) .nil))
    · exact isZ_eq (if_pos HE).symm
    · exact isB_eq (decide_eq_true HE).symm
set_option maxHeartbeats 4000000 in
theorem zint_Gcd {m n : Bool} {xs ys : List Nat} (hx : (List.length (words (val xs))) < 4294700000) (hy : (List.length (words (val ys))) < 4294700000) : Ctr Try.prog 8 [Flat [isB m, isWords xs], Flat [isB n, isWords ys]] (isZ ((Nat.gcd (val xs) (val ys) : Nat) : Int)) := by
  refine Ctr.intro Try.func8 rfl (by kernel_rfl) Try.ntmps8 rfl fun w0 F0 => ?_
  refine Tri.cv (Cv.wk (.cons (t := 0) (Has.t rfl) (.cons (t := 1) (Has.t rfl) .nil))) ?_
  refine Tri.fact (Has.okZ (Has.t (t := 0) rfl)) fun okz0 => ?_
  refine Tri.fact (Has.okZ (Has.t (t := 1) rfl)) fun okz1 => ?_
  have hg := Nat.le_trans (nw_mono (gcd_le_max (val xs) (val ys))) (nw_max _ _)
  refine Tri.seq fun K1 hK1 => ?_
  refine Tri.region ?_
  refine Ops.box (Has.t rfl) rfl fun b1 => ?_
  refine Ops.box (Has.t rfl) rfl fun b2 => ?_
  refine Ops.alloc [isB false, SlM isU []] zero27 (fun _ _ => ⟨rfl, nilM _ _, trivial⟩) rfl fun b3 => ?_
  refine nl ?_
  refine At.thn (hK1 _ _ ?_); clear hK1
  refine Tri.seq fun K2 hK2 => ?_
  refine Tri.region ?_
  refine st (OK1.fieldAddr (Has.t rfl) fld27_1 ty25) rfl ?_
  refine st (OK1.load1 (Has.t rfl) (i := 2) rfl ty25 rfl) rfl ?_
  refine st (OK1.fieldAddr (Has.t rfl) fld27_1 ty25) rfl ?_
  refine st (OK1.load1 (Has.t rfl) (i := 1) rfl ty25 rfl) rfl ?_
  refine st (OK1.call (div_Gcd (by omega) (by omega)) (.cons (Has.t rfl) (.cons (Has.t rfl) .nil))) rfl ?_
  refine st (OK1.call (zint_From (by simp only [val_words, zv_nf]; omega)) (.cons (Has.t rfl) (.cons (Has.cB false) .nil))) rfl ?_
  refine Ops.store (Has.t rfl) (Has.t rfl) (i := 0) rfl ty27 rfl rfl (Ss' := [_, _]) rfl (M' := [(some _, cellM [_, _]), _, _]) rfl ?_
  refine nl ?_
  refine At.thn (hK2 _ _ ?_); clear hK2
  refine Tri.cv (Cv.wk (.cons (t := 4) (Has.t rfl) .nil)) ?_
  refine Tri.ret ?_
  refine rt1 (.inl rfl) Try.results8 rfl (.cell rfl (i := 0) rfl ty27 rfl ?_ .nil)
  · exact isZ_eq (by rw [from_word, if_neg (by decide)])
set_option maxHeartbeats 4000000 in
theorem zint_cofactor {m n : Bool} {xs ys : List Nat} (hx : (List.length (words (val xs))) ≤ 100000000) (hy : (List.length (words (val ys))) ≤ 100000000) : Ctr Try.prog 60 [Flat [isB m, isWords xs], Flat [isB n, isWords ys]] (isTup [isZ (cof (zv m xs) (zv n ys) 1 0).1, isZ (cof (zv m xs) (zv n ys) 1 0).2]) := by
  refine Ctr.intro Try.func60 rfl (by kernel_rfl) Try.ntmps60 rfl fun w0 F0 => ?_
  refine Tri.cv (Cv.wk (.cons (t := 0) (Has.t rfl) (.cons (t := 1) (Has.t rfl) .nil))) ?_
  refine Tri.fact (Has.okZ (Has.t (t := 0) rfl)) fun okz0 => ?_
  refine Tri.fact (Has.okZ (Has.t (t := 1) rfl)) fun okz1 => ?_
  have hxx := zv_nw m xs
  have hyy := zv_nw n ys
  refine Tri.seq fun K1 hK1 => ?_
  refine Tri.region ?_
  refine Ops.box (Has.t rfl) rfl fun b1 => ?_
  refine Ops.box (Has.t rfl) rfl fun b2 => ?_
  refine Ops.alloc [isB false, SlM isU []] zero27 (fun _ _ => ⟨rfl, nilM _ _, trivial⟩) rfl fun b3 => ?_
  refine Ops.alloc [isB false, SlM isU []] zero27 (fun _ _ => ⟨rfl, nilM _ _, trivial⟩) rfl fun b4 => ?_
  refine nl ?_
  refine At.thn (hK1 _ _ ?_); clear hK1
  refine Tri.seq fun K2 hK2 => ?_
  refine Tri.region ?_
  refine st (OK1.call (zint_one) .nil) rfl ?_
  refine st (OK1.eq (OK1.build [isB false, SlM isU []] pl27 zero27 (fun _ _ => ⟨rfl, nilM _ _, trivial⟩) .nil (Z'' := [_, _]) rfl) (isZ0)) rfl ?_
  refine Ops.alloc [isB false, SlM isU []] zero27 (fun _ _ => ⟨rfl, nilM _ _, trivial⟩) rfl fun b5 => ?_
  refine Ops.alloc [isB false, SlM isU []] zero27 (fun _ _ => ⟨rfl, nilM _ _, trivial⟩) rfl fun b6 => ?_
  refine Ops.store (Has.t rfl) (Has.t rfl) (i := 1) rfl ty27 rfl rfl (Ss' := [_, _]) rfl (M' := [_, (some _, cellM [_, _]), _, _, _, _]) rfl ?_
  refine Ops.store (Has.t rfl) (Has.t rfl) (i := 0) rfl ty27 rfl rfl (Ss' := [_, _]) rfl (M' := [(some _, cellM [_, _]), _, _, _, _, _]) rfl ?_
  refine nl ?_
  refine At.thn (hK2 _ _ ?_); clear hK2
  refine Tri.seq fun K3 hK3 => ?_
  refine Tri.dr ?_
  refine DrG.st (i := 0) [] rfl rfl rfl (by kernel_rfl) (OKG.o rfl (OK1.fieldAddr (Has.t rfl) fld27_1 ty25)) ?_
  refine DrG.st (i := 1) [13] rfl rfl rfl (by kernel_rfl) (OKG.o rfl (OK1.load1 (Has.t rfl) (i := 5) rfl ty25 rfl)) ?_
  refine DrG.st (i := 2) [] rfl rfl rfl (by kernel_rfl) (OKG.o rfl (OK1.fieldAddr (Has.t rfl) fld27_0 ty4)) ?_
  refine DrG.st (i := 3) [15] rfl rfl rfl (by kernel_rfl) (OKG.o rfl (OK1.load1 (Has.t rfl) (i := 5) rfl ty4 rfl)) ?_
  refine DrG.st (i := 4) [14, 16] rfl rfl rfl (by kernel_rfl) (OKG.o rfl (OK1.call (zint_From (by omega)) (.cons (Has.t rfl) (.cons (Has.t rfl) .nil)))) ?_
  refine DrG.st (i := 5) [] rfl rfl rfl (by kernel_rfl) (OKG.o rfl (OK1.fieldAddr (Has.t rfl) fld27_1 ty25)) ?_
  refine DrG.st (i := 6) [18] rfl rfl rfl (by kernel_rfl) (OKG.o rfl (OK1.load1 (Has.t rfl) (i := 4) rfl ty25 rfl)) ?_
  refine DrG.st (i := 7) [] rfl rfl rfl (by kernel_rfl) (OKG.o rfl (OK1.fieldAddr (Has.t rfl) fld27_0 ty4)) ?_
  refine DrG.st (i := 8) [20] rfl rfl rfl (by kernel_rfl) (OKG.o rfl (OK1.load1 (Has.t rfl) (i := 4) rfl ty4 rfl)) ?_
  refine DrG.fin (n := 9) mixed (by kernel_rfl) (by kernel_rfl) (by kernel_rfl) ?_
  refine Ops.cv (Cv.wk (.cons (t := 2) (Has.t rfl) (.cons (t := 3) (Has.t rfl) (.cons (t := 4) (Has.t rfl) (.cons (t := 5) (Has.t rfl) (.cons (t := 6) (Has.t rfl) (.cons (t := 7) (Has.t rfl) (.cons (t := 17) (Has.t rfl) (.cons (t := 19) (Has.t rfl) (.cons (t := 21) (Has.t rfl) .nil)))))))))) ?_
  refine st (OK1.call (zint_From (by omega)) (.cons (Has.t rfl) (.cons (Has.t rfl) .nil))) rfl ?_
  refine Ops.store (Has.t rfl) (Has.t rfl) (i := 5) rfl ty27 rfl rfl (Ss' := [_, _]) rfl (M' := [_, _, _, _, _, (some _, cellM [_, _])]) rfl ?_
  refine Ops.store (Has.t rfl) (Has.t rfl) (i := 4) rfl ty27 rfl rfl (Ss' := [_, _]) rfl (M' := [_, _, _, _, (some _, cellM [_, _]), _]) rfl ?_
  refine nl ?_
  refine At.thn (hK3 _ _ ?_); clear hK3
  refine Tri.seq fun K4 hK4 => ?_
  refine Tri.block ?_
  refine Tri.loopF [2, 3, 4, 5, 6, 7] (fun (z : { z : Int × Int × Int × Int × Nat × Nat // Cf (zv m xs) (zv n ys) z.1 z.2.1 z.2.2.1 z.2.2.2.1 z.2.2.2.2.1 z.2.2.2.2.2 ∧ cof z.1 z.2.1 z.2.2.1 z.2.2.2.1 = cof (zv m xs) (zv n ys) 1 0 }) => match z with | ⟨(a, b, x, nx, X, Y), hI⟩ => []) (fun M => fun (z : { z : Int × Int × Int × Int × Nat × Nat // Cf (zv m xs) (zv n ys) z.1 z.2.1 z.2.2.1 z.2.2.2.1 z.2.2.2.2.1 z.2.2.2.2.2 ∧ cof z.1 z.2.1 z.2.2.1 z.2.2.2.1 = cof (zv m xs) (zv n ys) 1 0 }) => match z with | ⟨(a, b, x, nx, X, Y), hI⟩ => [zM b6 nx, zM b5 x, (some b4, cellM [isB false, SlM isU []]), (some b3, cellM [isB false, SlM isU []]), zM b2 b, zM b1 a]) (fun (z : { z : Int × Int × Int × Int × Nat × Nat // Cf (zv m xs) (zv n ys) z.1 z.2.1 z.2.2.1 z.2.2.2.1 z.2.2.2.2.1 z.2.2.2.2.2 ∧ cof z.1 z.2.1 z.2.2.1 z.2.2.2.1 = cof (zv m xs) (zv n ys) 1 0 }) => match z with | ⟨(a, b, x, nx, X, Y), hI⟩ => b.natAbs) (⟨(zv m xs, zv n ys, 1, 0, 1, 0), Cf.start _ _, rfl⟩) (Cv.mem (.cons (t := 2) (Has.t rfl) (.cons (t := 3) (Has.t rfl) (.cons (t := 4) (Has.t rfl) (.cons (t := 5) (Has.t rfl) (.cons (t := 6) (Has.t rfl) (.cons (t := 7) (Has.t rfl) .nil)))))) ?_) ?_
  · rfl
  rintro ⟨⟨a, b, x, nx, X, Y⟩, hI⟩ K5 hK5
  refine Tri.cv (Cv.wk (.cons (t := 2) (Has.t rfl) (.cons (t := 3) (Has.t rfl) (.cons (t := 4) (Has.t rfl) (.cons (t := 5) (Has.t rfl) (.cons (t := 6) (Has.t rfl) (.cons (t := 7) (Has.t rfl) .nil))))))) ?_
  refine Tri.memEq (M' := [zM b6 nx, zM b5 x, (some b4, cellM [isB false, SlM isU []]), (some b3, cellM [isB false, SlM isU []]), zM b2 b, zM b1 a]) rfl ?_
  simp only [] at hI
  obtain ⟨hC, hcof⟩ := hI
  have za := Nat.le_trans (nw_mono hC.a1) (nw_max _ _)
  have zb := nw_mono hC.b1
  have zx := Nat.le_trans (nw_mono (Nat.le_trans hC.x hC.X1)) (nw_max _ _)
  have zn := nw_mono (Nat.le_trans hC.y hC.Y1)
  have h1 := nw_one
  have zq := nz_tdiv a b
  have zr := nz_tmod a b
  refine Tri.seq fun K6 hK6 => ?_
  refine Tri.seq fun K7 hK7 => ?_
  refine Tri.region ?_
  refine st (OK1.load (Has.t rfl) (i := 4) rfl ty27 rfl (Ss' := [_, _]) rfl) rfl ?_
  refine st (OK1.eq (OK1.call (zint_Sign (by simp only [val_words, zv_nf]; omega)) (.cons (Has.t rfl) .nil)) (by simp only [val_words, zv_nf]; rfl)) rfl ?_
  refine st (OK1.neI (Has.t rfl) (Has.cI 0 rfl)) rfl ?_
  refine nl ?_
  refine At.thn (hK7 _ _ ?_); clear hK7
  refine Tri.cond (Has.t rfl) (fun hc1 => ?_) (fun hc1 => ?_)
  · have hc1 := BP.t hc1
    have hb : b ≠ 0 := fun e => hc1 (by rw [sgn_eq0]; exact e)
    have zm := nz_mul (a.tdiv b) nx
    refine Tri.skip ?_
    refine At.thn (hK6 _ _ ?_); clear hK6
    refine Tri.block ?_
    refine Tri.seq fun K8 hK8 => ?_
    refine Tri.region ?_
    refine st (OK1.load (Has.t rfl) (i := 5) rfl ty27 rfl (Ss' := [_, _]) rfl) rfl ?_
    refine st (OK1.load (Has.t rfl) (i := 4) rfl ty27 rfl (Ss' := [_, _]) rfl) rfl ?_
    refine st (OK1.eq (OK1.call (zint_Quo (by simp only [val_words, zv_nf]; omega) (by simp only [val_words, zv_nf]; omega)) (.cons (Has.t rfl) (.cons (Has.t rfl) .nil))) (by simp only [val_words, zv_nf]; rfl)) rfl ?_
    refine st (OK1.mv (Has.t rfl)) rfl ?_
    refine st (OK1.ext (Has.t rfl) rfl) rfl ?_
    refine st (OK1.ext (Has.t rfl) rfl) rfl ?_
    refine st (OK1.ext (Has.t rfl) rfl) rfl ?_
    refine Ops.alloc [isB false, SlM isU []] zero27 (fun _ _ => ⟨rfl, nilM _ _, trivial⟩) rfl fun b7 => ?_
    refine Ops.alloc [isB false, SlM isU []] zero27 (fun _ _ => ⟨rfl, nilM _ _, trivial⟩) rfl fun b8 => ?_
    refine Ops.store (Has.t rfl) (Has.t rfl) (i := 1) rfl ty27 rfl rfl (Ss' := [_, _]) rfl (M' := [_, (some _, cellM [_, _]), _, _, _, _, _, _]) rfl ?_
    refine Ops.store (Has.t rfl) (Has.t rfl) (i := 0) rfl ty27 rfl rfl (Ss' := [_, _]) rfl (M' := [(some _, cellM [_, _]), _, _, _, _, _, _, _]) rfl ?_
    refine st (OK1.as (Has.t rfl)) rfl ?_
    refine nl ?_
    refine At.thn (hK8 _ _ ?_); clear hK8
    refine Tri.seq fun K9 hK9 => ?_
    refine Tri.drh [true, true, true, true, true, true, true, false] (Ms := [_, _, _, _, _, _, _]) rfl ?_
    refine DrH.st (i := 0) [] rfl rfl rfl (by kernel_rfl) (OKG.o rfl (OK1.load (Has.t rfl) (i := 6) rfl ty27 rfl (Ss' := [_, _]) rfl)) ?_
    refine DrH.st (i := 1) [] rfl rfl rfl (by kernel_rfl) (OKG.o rfl (OK1.load (Has.t rfl) (i := 0) rfl ty27 rfl (Ss' := [_, _]) rfl)) ?_
    refine DrH.mid2 (.cons_cons _ (.cons_cons _ (.cons_cons _ (.cons_cons _ (.cons_cons _ (.cons_cons _ (.cons_cons _ (.cons _ .slnil)))))))) ?_
    refine DrN2.st0 [33] rfl rfl (by kernel_rfl) (by kernel_rfl) (StS.store (Has.t rfl) (Has.t rfl) (i := 7) rfl ty27 rfl rfl (Ss' := [_, _]) rfl (M' := [_, _, _, _, _, _, _, (some _, cellM [_, _])]) rfl) (.cons_cons _ (.cons_cons _ (.cons_cons _ (.cons_cons _ (.cons_cons _ (.cons_cons _ (.cons_cons _ (.cons _ .slnil)))))))) ?_
    refine DrN2.fin0 (n := 3) mixed rfl (by kernel_rfl) (by kernel_rfl) (by kernel_rfl) ?_
    refine Ops.cv (Cv.wk (.cons (t := 2) (Has.t rfl) (.cons (t := 3) (Has.t rfl) (.cons (t := 4) (Has.t rfl) (.cons (t := 5) (Has.t rfl) (.cons (t := 6) (Has.t rfl) (.cons (t := 7) (Has.t rfl) (.cons (t := 23) (Has.t rfl) (.cons (t := 24) (Has.t rfl) (.cons (t := 25) (Has.t rfl) (.cons (t := 27) (Has.t rfl) (.cons (t := 28) (Has.t rfl) (.cons (t := 29) (Has.t rfl) (.cons (t := 26) (Has.t rfl) (.cons (t := 30) (Has.t rfl) (.cons (t := 31) (Has.t rfl) (.cons (t := 32) (Has.t rfl) (.cons (t := 8) (Has.t rfl) (.cons (t := 9) (Has.t rfl) (.cons (t := 33) (Has.t rfl) (.cons (t := 34) (Has.t rfl) .nil))))))))))))))))))))) ?_
    refine Ops.store (Has.t rfl) (Has.t rfl) (i := 6) rfl ty27 rfl rfl (Ss' := [_, _]) rfl (M' := [_, _, _, _, _, _, (some _, cellM [_, _]), _]) rfl ?_
    refine nl ?_
    refine At.thn (hK9 _ _ ?_); clear hK9
    refine Tri.dr ?_
    refine DrG.st (i := 0) [] rfl rfl rfl (by kernel_rfl) (OKG.o rfl (OK1.load (Has.t rfl) (i := 2) rfl ty27 rfl (Ss' := [_, _]) rfl)) ?_
    refine DrG.st (i := 1) [] rfl rfl rfl (by kernel_rfl) (OKG.o rfl (OK1.load (Has.t rfl) (i := 3) rfl ty27 rfl (Ss' := [_, _]) rfl)) ?_
    refine DrG.st (i := 2) [] rfl rfl rfl (by kernel_rfl) (OKG.o rfl (OK1.load (Has.t rfl) (i := 1) rfl ty27 rfl (Ss' := [_, _]) rfl)) ?_
    refine DrG.st (i := 3) [] rfl rfl rfl (by kernel_rfl) (OKG.o rfl (OK1.load (Has.t rfl) (i := 2) rfl ty27 rfl (Ss' := [_, _]) rfl)) ?_
    refine DrG.st (i := 4) [37, 38] rfl rfl rfl (by kernel_rfl) (OKG.o rfl (OK1.eq (OK1.call (zint_Mul (by simp only [val_words, zv_nf]; omega) (by simp only [val_words, zv_nf]; omega)) (.cons (Has.t rfl) (.cons (Has.t rfl) .nil))) (by simp only [val_words, zv_nf]; rfl))) ?_
    refine DrG.st (i := 5) [36, 39] rfl rfl rfl (by kernel_rfl) (OKG.o rfl (OK1.eq (OK1.call (zint_Sub (by simp only [val_words, zv_nf]; omega) (by simp only [val_words, zv_nf]; omega)) (.cons (Has.t rfl) (.cons (Has.t rfl) .nil))) (by simp only [val_words, zv_nf]; rfl))) ?_
    refine DrG.fin (n := 6) mixed (by kernel_rfl) (by kernel_rfl) (by kernel_rfl) ?_
    refine Ops.cv (Cv.wk (.cons (t := 2) (Has.t rfl) (.cons (t := 3) (Has.t rfl) (.cons (t := 4) (Has.t rfl) (.cons (t := 5) (Has.t rfl) (.cons (t := 6) (Has.t rfl) (.cons (t := 7) (Has.t rfl) (.cons (t := 23) (Has.t rfl) (.cons (t := 24) (Has.t rfl) (.cons (t := 25) (Has.t rfl) (.cons (t := 27) (Has.t rfl) (.cons (t := 28) (Has.t rfl) (.cons (t := 29) (Has.t rfl) (.cons (t := 26) (Has.t rfl) (.cons (t := 30) (Has.t rfl) (.cons (t := 31) (Has.t rfl) (.cons (t := 32) (Has.t rfl) (.cons (t := 8) (Has.t rfl) (.cons (t := 9) (Has.t rfl) (.cons (t := 33) (Has.t rfl) (.cons (t := 34) (Has.t rfl) (.cons (t := 35) (Has.t rfl) (.cons (t := 36) (Has.t rfl) (.cons (t := 37) (Has.t rfl) (.cons (t := 38) (Has.t rfl) (.cons (t := 39) (Has.t rfl) (.cons (t := 40) (Has.t rfl) .nil))))))))))))))))))))))))))) ?_
    refine Ops.store (Has.t rfl) (Has.t rfl) (i := 3) rfl ty27 rfl rfl (Ss' := [_, _]) rfl (M' := [_, _, _, (some _, cellM [_, _]), _, _, _, _]) rfl ?_
    refine Ops.store (Has.t rfl) (Has.t rfl) (i := 2) rfl ty27 rfl rfl (Ss' := [_, _]) rfl (M' := [_, _, (some _, cellM [_, _]), _, _, _, _, _]) rfl ?_
    refine nl ?_
    refine At.bln ?_
    refine At.thn ?_
    refine hK5 (⟨(b, a.tmod b, nx, x - a.tdiv b * nx, Y, X + (a.tdiv b).natAbs * Y), hC.step hb, by rw [← hcof, cof_step hb]⟩) _ _ ?_ (Cv.trans (Cv.drop ((.cons _ (.cons _ (.cons_cons _ (.cons_cons _ (.cons_cons _ (.cons_cons _ (.cons_cons _ (.cons_cons _ .slnil)))))))))) (Cv.mem (.cons (t := 2) (Has.t rfl) (.cons (t := 3) (Has.t rfl) (.cons (t := 4) (Has.t rfl) (.cons (t := 5) (Has.t rfl) (.cons (t := 6) (Has.t rfl) (.cons (t := 7) (Has.t rfl) .nil)))))) ?_))
    · show (a.tmod b).natAbs < b.natAbs; rw [Int.natAbs_tmod]; exact Nat.mod_lt _ (by omega)
    · simp only [if_neg hb]
  · have hc1 := BP.f hc1
    have hb : b = 0 := (sgn_eq0 _).1 (by omega)
    refine Tri.exit ?_
    refine At.the ?_
    refine At.the ?_
    refine At.blh ?_
    refine At.thn (hK4 _ _ ?_); clear hK4
    refine Tri.cv (Cv.wk (.cons (t := 2) (Has.t rfl) (.cons (t := 4) (Has.t rfl) (.cons (t := 5) (Has.t rfl) (.cons (t := 6) (Has.t rfl) .nil))))) ?_
    refine Tri.seq fun K10 hK10 => ?_
    refine Tri.seq fun K11 hK11 => ?_
    refine Tri.region ?_
    refine st (OK1.load (Has.t rfl) (i := 5) rfl ty27 rfl (Ss' := [_, _]) rfl) rfl ?_
    refine st (OK1.eq (OK1.call (zint_Sign (by simp only [val_words, zv_nf]; omega)) (.cons (Has.t rfl) .nil)) (by simp only [val_words, zv_nf]; rfl)) rfl ?_
    refine st (OK1.ltI (Has.t rfl) (Has.cI 0 rfl)) rfl ?_
    refine nl ?_
    refine At.thn (hK11 _ _ ?_); clear hK11
    refine Tri.cond (Has.t rfl) (fun hc2 => ?_) (fun hc2 => ?_)
    · have hc2 := BP.t hc2
      have ha : a < 0 := (sgn_lt _).1 hc2
      refine Tri.seq fun K12 hK12 => ?_
      refine Tri.dr ?_
      refine DrG.st (i := 0) [] rfl rfl rfl (by kernel_rfl) (OKG.o rfl (OK1.load (Has.t rfl) (i := 5) rfl ty27 rfl (Ss' := [_, _]) rfl)) ?_
      refine DrG.st (i := 1) [44] rfl rfl rfl (by kernel_rfl) (OKG.o rfl (OK1.eq (OK1.call (zint_Neg (by simp only [val_words, zv_nf]; omega)) (.cons (Has.t rfl) .nil)) (by simp only [val_words, zv_nf]; rfl))) ?_
      refine DrG.st (i := 2) [] rfl rfl rfl (by kernel_rfl) (OKG.o rfl (OK1.load (Has.t rfl) (i := 1) rfl ty27 rfl (Ss' := [_, _]) rfl)) ?_
      refine DrG.fin (n := 3) mixed (by kernel_rfl) (by kernel_rfl) (by kernel_rfl) ?_
      refine Ops.cv (Cv.wk (.cons (t := 2) (Has.t rfl) (.cons (t := 4) (Has.t rfl) (.cons (t := 5) (Has.t rfl) (.cons (t := 6) (Has.t rfl) (.cons (t := 45) (Has.t rfl) (.cons (t := 46) (Has.t rfl) .nil))))))) ?_
      refine st (OK1.eq (OK1.call (zint_Neg (by simp only [val_words, zv_nf]; omega)) (.cons (Has.t rfl) .nil)) (by simp only [val_words, zv_nf]; rfl)) rfl ?_
      refine Ops.store (Has.t rfl) (Has.t rfl) (i := 3) rfl ty27 rfl rfl (Ss' := [_, _]) rfl (M' := [_, _, _, (some _, cellM [_, _]), _, _]) rfl ?_
      refine Ops.store (Has.t rfl) (Has.t rfl) (i := 2) rfl ty27 rfl rfl (Ss' := [_, _]) rfl (M' := [_, _, (some _, cellM [_, _]), _, _, _]) rfl ?_
      refine nl ?_
      refine At.thn (hK12 _ _ ?_); clear hK12
      refine Tri.ret ?_
      refine At.thr ?_
      refine rtN (.inl rfl) Try.results60 rfl rfl (.cell rfl (i := 3) rfl ty27 rfl ?_ (.cell rfl (i := 2) rfl ty27 rfl ?_ .nil))
      · subst hb; exact isZ_eq (by rw [← hcof, cof_zero, if_pos ha])
      · subst hb; exact isZ_eq (by rw [← hcof, cof_zero, if_pos ha])
    · have hc2 := BP.f hc2
      have ha : ¬ a < 0 := fun e => by have := (sgn_lt a).2 e; omega
      refine Tri.skip ?_
      refine At.thn (hK10 _ _ ?_); clear hK10
      refine Tri.seq fun K13 hK13 => ?_
      refine Tri.drh [true, true, true, false, true, true] (Ms := [_, _, _, _, _]) rfl ?_
      refine DrH.st (i := 0) [] rfl rfl rfl (by kernel_rfl) (OKG.o rfl (OK1.load (Has.t rfl) (i := 4) rfl ty27 rfl (Ss' := [_, _]) rfl)) ?_
      refine DrH.st (i := 1) [] rfl rfl rfl (by kernel_rfl) (OKG.o rfl (OK1.load (Has.t rfl) (i := 1) rfl ty27 rfl (Ss' := [_, _]) rfl)) ?_
      refine DrH.mid2 (.cons_cons _ (.cons_cons _ (.cons_cons _ (.cons _ (.cons_cons _ (.cons_cons _ .slnil)))))) ?_
      refine DrN2.st0 [48] rfl rfl (by kernel_rfl) (by kernel_rfl) (StS.store (Has.t rfl) (Has.t rfl) (i := 3) rfl ty27 rfl rfl (Ss' := [_, _]) rfl (M' := [_, _, _, (some _, cellM [_, _]), _, _]) rfl) (.cons_cons _ (.cons_cons _ (.cons_cons _ (.cons _ (.cons_cons _ (.cons_cons _ .slnil)))))) ?_
      refine DrN2.fin0 (n := 3) mixed rfl (by kernel_rfl) (by kernel_rfl) (by kernel_rfl) ?_
      refine Ops.cv (Cv.wk (.cons (t := 4) (Has.t rfl) (.cons (t := 5) (Has.t rfl) (.cons (t := 49) (Has.t rfl) .nil)))) ?_
      refine Ops.store (Has.t rfl) (Has.t rfl) (i := 2) rfl ty27 rfl rfl (Ss' := [_, _]) rfl (M' := [_, _, (some _, cellM [_, _]), _, _, _]) rfl ?_
      refine nl ?_
      refine At.thn (hK13 _ _ ?_); clear hK13
      refine Tri.ret ?_
      refine rtN (.inl rfl) Try.results60 rfl rfl (.cell rfl (i := 3) rfl ty27 rfl ?_ (.cell rfl (i := 2) rfl ty27 rfl ?_ .nil))
      · subst hb; exact isZ_eq (by rw [← hcof, cof_zero, if_neg ha])
      · subst hb; exact isZ_eq (by rw [← hcof, cof_zero, if_neg ha])
end Go.Proofs.Ytbnhdbchoghkfaa
/- A drawn region with an effect that stands behind all ahead of it, and one more reading beside it. -/
namespace Go.En
open Go.RowKit
set_option linter.unusedVariables false
section
variable {E : Env} {P : Program} {Γ : Ctx} {M : Mem} {ty : TypeId} {pos : String} {after : Array Edge}
  {ops : Array Oper} {Q : Exit → Act → World → Prop} {rest : List Oper}
theorem any_one {l : List Oper} {i fuel : Nat} {o : Oper} {listed : Array Bool} {a : Act} {w : World} (hr : ∀ j, j ∈ Region.ready .any l.toArray listed → j = i) (hi : i ∈ Region.ready .any l.toArray listed) (ho : l[i]? = some o)
    (hl : wpList P l.toArray Q (o :: rest) a w) (hn : ∀ a w, wpList P l.toArray Q rest a w → wpAny P .any l.toArray Q fuel (listed.setIfInBounds i true) a w) : wpAny P .any l.toArray Q (fuel + 1) listed a w := by
  refine ⟨fun h0 => ?_, fun j hj => ?_⟩
  · rw [h0] at hi; simp at hi
  · obtain rfl := hr j hj
    have ho' : l.toArray[j]? = some o := by simpa using ho
    unfold wpOp
    rw [ho']
    simp only []
    unfold wpList at hl
    split
    · rename_i hw; rw [if_pos hw] at hl; exact hl.imp (Oper.wp_mono hn) id
    · rename_i hw; rw [if_neg hw] at hl; exact hn _ _ hl
end
end Go.En
/- A drawn region: what reads no memory is taken first; then readings in any order; then a tail that stands behind them. -/
namespace Go.En
open Go.RowKit
set_option linter.unusedVariables false
section
variable {E : Env} {P : Program} {Γ : Ctx} {M : Mem} {ty : TypeId} {pos : String} {after : Array Edge}
  {ops : Array Oper} {Q : Exit → Act → World → Prop} {rest : List Oper}
/-- one operation that reads no memory -/
def OKY (E : Env) (P : Program) (Γ : Ctx) (M : Mem) (o : Oper) (S : VP) : Prop :=
  ∀ a w F, Sat E Γ M a w F → ∃ v, (∀ w', (execOp a.eval o).run P w' = .ok (.value v) w') ∧ S.h w F v
theorem OKY.mv {d : Option Tmp} {x : Operand} {S : VP} (h : Has E Γ M x S) : OKY E P Γ M ⟨d, .move x, ty, pos, after, none⟩ S := fun a w F s => ⟨_, fun _ => rfl, h a w F s⟩
theorem OKY.as {d : Option Tmp} {x : Operand} {S : VP} (h : Has E Γ M x S) : OKY E P Γ M ⟨d, .assign x, ty, pos, after, none⟩ S := fun a w F s => ⟨_, fun _ => rfl, h a w F s⟩
theorem OKY.ext {d : Option Tmp} {x : Operand} {Ss : List VP} {S : VP} {i : Nat} (hx : Has E Γ M x (isTup Ss)) (hi : Ss[i]? = some S) : OKY E P Γ M ⟨d, .extract x i, ty, pos, after, none⟩ S := fun a w F s => by
  obtain ⟨vs, e, h⟩ := hx a w F s
  obtain ⟨v, hv, hS⟩ := h.get i S hi
  exact ⟨v, fun w' => by simp only [execOp, e]; simp [Instr.extract, hv, go_sem], hS⟩
theorem OKY.nilc {d : Option Tmp} {x : Operand} {b o : Nat} (h : Has E Γ M x (isPtr b o)) : OKY E P Γ M ⟨d, .nilCheck x, ty, pos, after, none⟩ (isPtr b o) := fun a w F s => by
  have e : a.eval x = .pointer (some ⟨b, o, none⟩) := h a w F s
  exact ⟨.pointer (some ⟨b, o, none⟩), fun w' => by simp only [execOp, e]; rfl, rfl⟩
theorem OK1.nilc {d : Option Tmp} {gd : Option (Nat × Bool)} {x : Operand} {b o : Nat} (h : Has E Γ M x (isPtr b o)) : OK1 E P Γ M ⟨d, .nilCheck x, ty, pos, after, gd⟩ (isPtr b o) := .run fun a w F s => by
  have e : a.eval x = .pointer (some ⟨b, o, none⟩) := h a w F s
  exact ⟨.pointer (some ⟨b, o, none⟩), by simp only [execOp, e]; rfl, rfl⟩
theorem OKY.fieldAddr {d : Option Tmp} {x : Operand} {b off i o n : Nat} {g : Bool} {T T' : TypeId} (hx : Has E Γ M x (isPtr b off)) (hf : fldB P T i = some (o, T')) (ht : tyB P T' = some (n + 1, g)) :
    OKY E P Γ M ⟨d, .fieldAddr T x i, ty, pos, after, none⟩ (isPtr b (off + o)) := fun a w F s => by
    have h1 : a.eval x = .pointer (some ⟨b, off, none⟩) := hx a w F s
    refine ⟨_, fun w' => ?_, rfl⟩
    unfold fldB at hf
    cases hu : P.underlying T with
    | none => simp [hu] at hf
    | some dd =>
      rw [hu] at hf
      cases dd <;> simp at hf
      rename_i fs
      obtain ⟨f, hf1, hf2, hf3⟩ := hf
      subst hf2 hf3
      simp only [execOp, h1, Instr.fieldAt, Instr.sureAddr, fieldPlace, Sem.run_bind, Sem.run_pure, Result.andThen_ok, run_under hu, run_size ht, hf1]
      simp [add_mk]
def arrOf (n : Nat) (bs : List Nat) : Array Bool := bs.foldl (fun acc i => acc.setIfInBounds i true) (Array.replicate n false)
theorem arrOf_snoc (n : Nat) (bs : List Nat) (i : Nat) : arrOf n (bs ++ [i]) = (arrOf n bs).setIfInBounds i true := by unfold arrOf; rw [List.foldl_append]; rfl
theorem arrOf_size (n : Nat) (bs : List Nat) : (arrOf n bs).size = n := by
  unfold arrOf
  suffices h : ∀ (bs : List Nat) (acc : Array Bool), acc.size = n → (bs.foldl (fun acc i => acc.setIfInBounds i true) acc).size = n by exact h bs _ (by simp)
  intro bs
  induction bs with
  | nil => intro acc h; exact h
  | cons b bs ih => intro acc h; exact ih _ (by simp [h])
/-- the operations bs have been taken -/
def DrB (E : Env) (P : Program) (l : List Oper) (Γ : Ctx) (M : Mem) (Q : Exit → Act → World → Prop) (bs : List Nat) : Prop :=
  ∀ a w F, Sat E Γ M a w F → wpAny P .any l.toArray Q (l.length - bs.length) (arrOf l.length bs) a w
theorem Tri.dry {id : Nat} {l : List Oper} (hm : P.follows .mixedOrders = true) (h : DrB E P l Γ M Q []) : Tri E P (.region id l.toArray true) Γ M Q := by
  intro a w F s
  refine wp_region_any hm ?_
  have := h a _ F (s.adv (Adv.drew w F))
  simpa [arrOf] using this
theorem DrB.take {l : List Oper} {bs : List Nat} {i d : Nat} {o : Oper} {S : VP} (hi : l[i]? = some o) (hd : o.dst = some d) (hg : o.guard = none) (hn : Nat.blt d E.n = true) (hs : Region.noSelect l.toArray = true)
    (hf : Region.free .any l.toArray (arrOf l.length bs) i = true) (hr : (Region.ready .any l.toArray (arrOf l.length bs)).contains i = true) (hl : Nat.blt bs.length l.length = true) (hQ : ∀ c a w v, Q (.panic c) (Act.put a (some d) v) w → Q (.panic c) a w)
    (hok : OKY E P Γ M o S) (k : DrB E P l ((d, S) :: Γ) M Q (bs ++ [i])) : DrB E P l Γ M Q bs := by
  intro a w F s
  obtain ⟨v, hv, hS⟩ := hok a w F s
  have hd' : d < E.n := by simpa [Nat.blt_eq] using hn
  have hl' : bs.length < l.length := by simpa [Nat.blt_eq] using hl
  have hk := k (a.put (some d) v) w F (s.put hd' hS)
  obtain ⟨f, hfu⟩ : ∃ f, l.length - bs.length = f + 1 := ⟨l.length - bs.length - 1, by omega⟩
  rw [hfu]
  refine wpAny_take (i := i) (oi := o) (v := v) (by simpa using hi) hs hf hr (fun c a w h => hQ c a w v (by rw [hd] at h; exact h)) (.inl ⟨by simp [Region.wanted, hg], hv⟩) ?_
  rw [hd, ← arrOf_snoc]
  rw [List.length_append, List.length_singleton, show l.length - (bs.length + 1) = f by omega] at hk
  exact hk
/-- nothing that does not stand behind the i-th has to do with what it writes or reads -/
def freeB (l : List Oper) (i : Nat) : Bool := match l[i]? with
  | none => false
  | some oi => (List.range l.length).all fun j => j == i || (((masks l [])[i]?).getD 0).testBit j || match l[j]? with
      | some oj => oj.after.any (fun e => Region.binds .any e && e.on == i) || oi.apart l.toArray oj
      | none => true
/-- readings, each in a context of what it stands behind; those of es read no memory, and are taken as soon as they can be -/
inductive DrL (E : Env) (P : Program) (l : List Oper) (Γ : Ctx) (M : Mem) (es : List Nat) : List Nat → List VP → Prop
  | nil : DrL E P l Γ M es [] []
  | snoc {i d : Nat} {az : List Nat} {Ss : List VP} {S : VP} {o : Oper} (Δ : Ctx) : DrL E P l Γ M es az Ss → l[i]? = some o → o.dst = some d → Nat.blt d E.n = true →
      (∀ t S, look Δ t = some S → (∃ (k j : Nat) (oj : Oper), az[k]? = some j ∧ (((masks l [])[i]?).getD 0).testBit j = true ∧ l[j]? = some oj ∧ oj.dst = some t ∧ Ss[k]? = some S) ∨ look Γ t = some S) →
      OKG E P l.toArray Δ M o S → (es.contains i = true → OKY E P Δ M o S ∧ o.guard = none) → DrL E P l Γ M es (az ++ [i]) (Ss ++ [S])
theorem DrL.at {l : List Oper} {es az : List Nat} {Ss : List VP} (h : DrL E P l Γ M es az Ss) : Ss.length = az.length ∧ ∀ (k i : Nat), az[k]? = some i → ∃ (o : Oper) (d : Nat) (S : VP) (Δ : Ctx), l[i]? = some o ∧ o.dst = some d ∧ d < E.n ∧ Ss[k]? = some S ∧
    (∀ t S, look Δ t = some S → (∃ (k j : Nat) (oj : Oper), az[k]? = some j ∧ (((masks l [])[i]?).getD 0).testBit j = true ∧ l[j]? = some oj ∧ oj.dst = some t ∧ Ss[k]? = some S) ∨ look Γ t = some S) ∧ OKG E P l.toArray Δ M o S ∧ (es.contains i = true → OKY E P Δ M o S ∧ o.guard = none) := by
  induction h with
  | nil => exact ⟨rfl, fun k i hk => by simp at hk⟩
  | @snoc i d az Ss S o Δ h0 h1 h2 h3 h4 h5 h6 ih =>
    obtain ⟨ih1, ih2⟩ := ih
    have up : ∀ {β : Type} (xs : List β) (x : β) (j : Nat) (T : β), xs[j]? = some T → (xs ++ [x])[j]? = some T := fun xs x j T hT => by
      have : j < xs.length := by
        rcases Nat.lt_or_ge j xs.length with h | h
        · exact h
        · rw [List.getElem?_eq_none h] at hT; cases hT
      rw [List.getElem?_append_left this]; exact hT
    refine ⟨by simp [ih1], fun k i' hk => ?_⟩
    by_cases e : k = az.length
    · subst e
      rw [List.getElem?_append_right (Nat.le_refl _), Nat.sub_self] at hk
      obtain rfl : i = i' := by simpa using hk
      refine ⟨o, d, S, Δ, h1, h2, by simpa [Nat.blt_eq] using h3, by rw [List.getElem?_append_right (by omega)]; simp [ih1], fun t T hT => ?_, h5, h6⟩
      rcases h4 t T hT with ⟨k, j, oj, b0, b1, b2, b3, b4⟩ | h
      · exact .inl ⟨k, j, oj, up _ _ _ _ b0, b1, b2, b3, up _ _ _ _ b4⟩
      · exact .inr h
    · have hkl : k < az.length := by
        rcases Nat.lt_or_ge k az.length with h | h
        · exact h
        · rw [List.getElem?_eq_none (by simp; omega)] at hk; cases hk
      rw [List.getElem?_append_left hkl] at hk
      obtain ⟨o', d', S', Δ', a1, a2, a3, a4, a5, a6⟩ := ih2 k i' hk
      refine ⟨o', d', S', Δ', a1, a2, a3, up _ _ _ _ a4, fun t T hT => ?_, a6⟩
      rcases a5 t T hT with ⟨k, j, oj, b0, b1, b2, b3, b4⟩ | h
      · exact .inl ⟨k, j, oj, up _ _ _ _ b0, b1, b2, b3, up _ _ _ _ b4⟩
      · exact .inr h
/-- edges lead back; each place is in one of the three lists; the tail's stand behind the readings and the tail ahead of them -/
def backB (l : List Oper) : Bool := (List.range l.length).all fun i => match l[i]? with
  | none => true
  | some o => o.after.toList.all fun e => !Region.binds .any e || Nat.blt e.on i
def partB (n : Nat) (bs az ts : List Nat) : Bool := (List.range n).all fun i => bs.contains i || az.contains i || ts.contains i
def aheadB (l : List Oper) (az : List Nat) : List Nat → Bool
  | [] => true
  | t :: ts => (az.all fun j => (((masks l [])[t]?).getD 0).testBit j) && aheadB l (az ++ [t]) ts
def disjB (bs az ts : List Nat) : Bool := (ts.all fun t => !bs.contains t && !az.contains t) && (az.all fun t => !bs.contains t)
def nodupB : List Nat → Bool
  | [] => true
  | t :: ts => !ts.contains t && nodupB ts
def inB (n : Nat) (ts : List Nat) : Bool := ts.all fun t => Nat.blt t n
/-- the readings' slots are apart, and none of them is known before -/
def apartL (l : List Oper) (az : List Nat) (Γ : Ctx) : Bool := az.all fun i => match (l[i]?).bind (·.dst) with
  | none => true
  | some d => (Γ.all fun p => !Nat.beq p.1 d) && az.all fun j => Nat.beq i j || match (l[j]?).bind (·.dst) with
    | none => true
    | some e => !Nat.beq d e
theorem backB_spec {l : List Oper} (h : backB l = true) : ∀ (i : Nat) (o : Oper), l[i]? = some o → ∀ e ∈ o.after, Region.binds .any e = true → e.on < i := by
  intro i o ho e he hb
  have hi : i < l.length := by
    rcases Nat.lt_or_ge i l.length with h' | h'
    · exact h'
    · rw [List.getElem?_eq_none h'] at ho; cases ho
  have := List.all_eq_true.1 h i (by simpa using hi)
  rw [ho] at this
  have h2 := List.all_eq_true.1 this e (by simpa using he)
  rw [hb] at h2
  simpa [Nat.blt_eq] using h2
/-- the tail, in its order: all else is listed -/
theorem phaseT {l : List Oper} (hback : backB l = true) : ∀ (ts : List Nat) (pre : List Nat), aheadB l pre ts = true → nodupB ts = true → inB l.length ts = true →
    ∀ (fuel : Nat) (listed : Array Bool) (a : Act) (w : World), ts.length ≤ fuel → listed.size = l.length → (∀ j, j < l.length → j ∉ ts → listed.getD j false = true) → (∀ j, j ∈ ts → listed.getD j false = false) → (∀ t ∈ ts, t ∉ pre) →
    Closed l (fun j => listed.getD j false = true) → wpList P l.toArray Q (ts.filterMap fun i => l[i]?) a w → wpAny P .any l.toArray Q fuel listed a w := by
  have hsp := backB_spec hback
  have gd : ∀ (listed : Array Bool) j, j < listed.size → listed.getD j true = listed.getD j false := fun listed j hj => by simp [hj]
  intro ts
  induction ts with
  | nil =>
    intro pre _ _ _ fuel listed a w hf hsz hall _ _ hc hl
    refine wpAny_done ?_ hl fuel
    cases hr : Region.ready .any l.toArray listed with
    | nil => rfl
    | cons j js =>
      have hj : j ∈ Region.ready .any l.toArray listed := by rw [hr]; simp
      rw [mem_ready] at hj
      obtain ⟨g1, o, g2, _⟩ := hj
      have g2' : l[j]? = some o := by simpa using g2
      have hjl : j < l.length := by
        rcases Nat.lt_or_ge j l.length with h' | h'
        · exact h'
        · rw [List.getElem?_eq_none h'] at g2'; cases g2'
      rw [gd listed j (by omega), hall j hjl (by simp)] at g1; cases g1
  | cons t ts ih =>
    intro pre hah hnd hin fuel listed a w hf hsz hall hun hpre hc hl
    simp only [aheadB, Bool.and_eq_true] at hah
    simp only [nodupB, Bool.and_eq_true, Bool.not_eq_true'] at hnd
    simp only [inB, List.all_cons, Bool.and_eq_true] at hin
    have htl : t < l.length := by simpa [Nat.blt_eq] using hin.1
    have htn : t ∉ ts := by have := hnd.1; simpa using this
    obtain ⟨f, rfl⟩ : ∃ f, fuel = f + 1 := ⟨fuel - 1, by simp at hf; omega⟩
    have hot : l[t]? = some l[t] := List.getElem?_eq_getElem htl
    -- what the tail's later ones stand behind
    have later : ∀ (ts' : List Nat) (pre' : List Nat), aheadB l pre' ts' = true → ∀ u ∈ ts', ∀ j ∈ pre', (((masks l [])[u]?).getD 0).testBit j = true := by
      intro ts'
      induction ts' with
      | nil => intro pre' _ u hu; cases hu
      | cons x xs ihx =>
        intro pre' h u hu j hj
        simp only [aheadB, Bool.and_eq_true] at h
        rcases List.mem_cons.1 hu with rfl | hu
        · exact List.all_eq_true.1 h.1 j hj
        · exact ihx _ h.2 u hu j (List.mem_append_left _ hj)
    have honly : ∀ j, j ∈ Region.ready .any l.toArray listed → j = t := by
      intro j hj
      rw [mem_ready] at hj
      obtain ⟨g1, o, g2, g3⟩ := hj
      have g2' : l[j]? = some o := by simpa using g2
      have hjl : j < l.length := by
        rcases Nat.lt_or_ge j l.length with h' | h'
        · exact h'
        · rw [List.getElem?_eq_none h'] at g2'; cases g2'
      refine Classical.byContradiction fun hne => ?_
      have hjt : j ∈ t :: ts := by
        refine Classical.byContradiction fun hno => ?_
        rw [gd listed j (by omega), hall j hjl hno] at g1; cases g1
      have hjts : j ∈ ts := by rcases List.mem_cons.1 hjt with h | h; exact absurd h hne; exact h
      have hbit := later ts _ hah.2 j hjts t (by simp)
      have hmask : j < (masks l []).length := by rw [masks_len]; simpa using hjl
      rw [List.getElem?_eq_getElem hmask] at hbit
      have := reach hc j o g2' g3 t _ (List.getElem?_eq_getElem hmask) (by simpa using hbit)
      have h0 := hun t (by simp)
      have h1 : listed.getD t false = true := this
      rw [h1] at h0; cases h0
    have hready : t ∈ Region.ready .any l.toArray listed := by
      rw [mem_ready]
      refine ⟨by rw [gd listed t (by omega)]; exact hun t (by simp), l[t], by simp [htl], fun e he hb => ?_⟩
      -- an edge of t leads to what is listed
      have hlt := hsp t _ hot e he hb
      refine hall e.on (by omega) fun hmem => ?_
      rcases List.mem_cons.1 hmem with h | h
      · omega
      · -- a later one of the tail would stand behind t, and t behind it
        have hbit := later ts _ hah.2 e.on h t (by simp)
        have hmask : e.on < (masks l []).length := by rw [masks_len]; simp; omega
        rw [List.getElem?_eq_getElem hmask] at hbit
        -- masks lead back
        have hm : ∀ (i : Nat) (m : Nat), (masks l [])[i]? = some m → ∀ j, m.testBit j = true → j < i := by
          intro i m hm j hj
          have hil : i < l.length := by
            rcases Nat.lt_or_ge i l.length with h' | h'
            · exact h'
            · rw [List.getElem?_eq_none (by rw [masks_len]; simp; omega)] at hm; cases hm
          have := reach (l := l) (L := fun j => j < i) (fun i' o' ho' hi' e' he' hb' => Nat.lt_trans (hsp i' o' ho' e' he' hb') hi') i _ (List.getElem?_eq_getElem hil) (fun e' he' hb' => hsp i _ (List.getElem?_eq_getElem hil) e' he' hb') j m hm hj
          exact this
        have := hm e.on _ (List.getElem?_eq_getElem hmask) t (by simpa using hbit)
        omega
    rw [List.filterMap_cons, hot] at hl
    refine any_one (i := t) honly hready hot hl fun a w hl' => ?_
    refine ih (pre ++ [t]) hah.2 hnd.2 hin.2 f _ a w (by simp at hf; omega) (by simp [hsz]) (fun j hj hjn => ?_) (fun j hj => ?_) (fun u hu hmem => ?_) ?_ hl'
    · by_cases e : j = t
      · subst e; simp [hsz, htl]
      · exact getD_set_true (hall j hj (by simp [e, hjn]))
    · have hne : t ≠ j := fun e => htn (e ▸ hj)
      rw [getD_set_ne false hne]; exact hun j (by simp [hj])
    · rcases List.mem_append.1 hmem with h | h
      · exact hpre u (by simp [hu]) h
      · obtain rfl : u = t := by simpa using h
        exact htn hu
    · intro i o ho hL e he hb
      by_cases ei : i = t
      · subst ei
        rw [mem_ready] at hready
        obtain ⟨_, o', ho', hall'⟩ := hready
        have h1 : l[i]? = some o' := by simpa using ho'
        rw [ho] at h1; obtain rfl := Option.some.inj h1
        exact getD_set_true (hall' e he hb)
      · exact getD_set_true (hc i o ho (by
          have hL' : (listed.setIfInBounds t true).getD i false = true := hL
          rwa [getD_set_ne false (fun h => ei h.symm)] at hL') e he hb)
/-- what holds of the readings that are listed -/
def DoneL (l : List Oper) (az : List Nat) (Ss : List VP) (L : Nat → Prop) (a : Act) (w : World) (F : Blk) : Prop :=
  ∀ (k j : Nat) (o : Oper) (d : Nat) (S : VP), az[k]? = some j → L j → l[j]? = some o → o.dst = some d → Ss[k]? = some S → S.h w F (a.tmps.getD d undef)
/-- the readings' slots -/
def dctxL (l : List Oper) : List Nat → List VP → Ctx
  | i :: az, S :: Ss => match (l[i]?).bind (·.dst) with
    | some d => (d, S) :: dctxL l az Ss
    | none => dctxL l az Ss
  | _, _ => []
theorem look_dctxL {l : List Oper} : ∀ (az : List Nat) (Ss : List VP) (t : Nat) (S : VP), look (dctxL l az Ss) t = some S → ∃ (k j : Nat) (o : Oper), az[k]? = some j ∧ l[j]? = some o ∧ o.dst = some t ∧ Ss[k]? = some S
  | [], Ss, t, S, h => by simp [dctxL, look] at h
  | i :: az, [], t, S, h => by simp [dctxL, look] at h
  | i :: az, S0 :: Ss, t, S, h => by
    simp only [dctxL] at h
    cases hd : (l[i]?).bind (·.dst) with
    | none => rw [hd] at h; obtain ⟨k, j, o, a, b, c, d⟩ := look_dctxL az Ss t S h; exact ⟨k + 1, j, o, by simpa using a, b, c, by simpa using d⟩
    | some dd =>
      rw [hd] at h
      simp only [look] at h
      cases hb : Nat.beq dd t with
      | false => rw [hb] at h; obtain ⟨k, j, o, a, b, c, d⟩ := look_dctxL az Ss t S h; exact ⟨k + 1, j, o, by simpa using a, b, c, by simpa using d⟩
      | true =>
        rw [hb] at h; simp at h; subst h
        obtain rfl := Nat.eq_of_beq_eq_true hb
        cases ho : l[i]? with
        | none => rw [ho] at hd; cases hd
        | some o => rw [ho] at hd; exact ⟨0, i, o, rfl, ho, by simpa using hd, rfl⟩
theorem nodup_at : ∀ {az : List Nat}, nodupB az = true → ∀ {k k' j : Nat}, az[k]? = some j → az[k']? = some j → k = k'
  | [], _, k, k', j, h, _ => by simp at h
  | a :: az, hn, k, k', j, h, h' => by
    simp only [nodupB, Bool.and_eq_true, Bool.not_eq_true'] at hn
    have hna : a ∉ az := by have := hn.1; simpa using this
    cases k with
    | zero =>
      cases k' with
      | zero => rfl
      | succ k' =>
        exfalso
        have e : a = j := by simpa using h
        exact hna (e ▸ List.mem_of_getElem? (show az[k']? = some j by simpa using h'))
    | succ k =>
      cases k' with
      | zero =>
        exfalso
        have e : a = j := by simpa using h'
        exact hna (e ▸ List.mem_of_getElem? (show az[k]? = some j by simpa using h))
      | succ k' => rw [nodup_at hn.2 (show az[k]? = some j by simpa using h) (show az[k']? = some j by simpa using h')]
/-- eager operations: free, their edges do not lead to the tail -/
def eagerB (l : List Oper) (es az ts : List Nat) : Bool := es.all fun i => az.contains i && freeB l i && match l[i]? with
  | none => true
  | some o => o.after.toList.all fun e => !Region.binds .any e || !ts.contains e.on
theorem phaseL {l : List Oper} {bs es az ts : List Nat} {Ss : List VP} (hD : DrL E P l Γ M es az Ss) (hsel : Region.noSelect l.toArray = true) (heg : eagerB l es az ts = true) (hQ : ∀ c a w d v, Q (.panic c) (Act.put a (some d) v) w → Q (.panic c) a w) (hap : apartL l az Γ = true) (hback : backB l = true) (hpart : partB l.length bs az ts = true) (hdis : disjB bs az ts = true) (hah : aheadB l (az.filter fun i => !es.contains i) ts = true) (hnd : nodupB ts = true) (hna : nodupB az = true) (hin : inB l.length ts = true)
    (k : Ops E P l.toArray Q (ts.filterMap fun i => l[i]?) (dctxL l az Ss ++ Γ) M) :
    ∀ (fuel : Nat) (listed : Array Bool) (a : Act) (w : World) (F : Blk), listed.toList.countP (· == false) ≤ fuel → listed.size = l.length → (∀ j, j ∈ bs → j < l.length → listed.getD j false = true) → (∀ j, j ∈ ts → listed.getD j false = false) →
    Closed l (fun j => listed.getD j false = true) → Sat E Γ M a w F → DoneL l az Ss (fun j => listed.getD j false = true) a w F → wpAny P .any l.toArray Q fuel listed a w := by
  obtain ⟨hlen, hat⟩ := hD.at
  have hsp := backB_spec hback
  have gd : ∀ (listed : Array Bool) j, j < listed.size → listed.getD j true = listed.getD j false := fun listed j hj => by simp [hj]
  have hcase : ∀ i, i < l.length → i ∈ bs ∨ i ∈ az ∨ i ∈ ts := by
    intro i hi
    have := List.all_eq_true.1 hpart i (by simpa using hi)
    simp only [Bool.or_eq_true, List.contains_iff_mem] at this
    rcases this with (h | h) | h
    · exact .inl h
    · exact .inr (.inl h)
    · exact .inr (.inr h)
  simp only [disjB, Bool.and_eq_true, List.all_eq_true, Bool.not_eq_true', Bool.and_eq_true] at hdis
  have hta : ∀ t ∈ ts, t ∉ az := fun t ht => by have := (hdis.1 t ht).2; simpa using this
  have hapart : ∀ i d, i ∈ az → (l[i]?).bind (·.dst) = some d → (∀ t S, look Γ t = some S → t ≠ d) ∧ ∀ j e, j ∈ az → j ≠ i → (l[j]?).bind (·.dst) = some e → e ≠ d := by
    intro i d hi hd
    have h1 := List.all_eq_true.1 hap i hi
    rw [hd] at h1
    simp only [Bool.and_eq_true] at h1
    refine ⟨look_none h1.1, fun j e hj hne he => ?_⟩
    have h2 := List.all_eq_true.1 h1.2 j hj
    rw [he] at h2
    simp only [Bool.or_eq_true, Bool.not_eq_true'] at h2
    rcases h2 with h2 | h2
    · exact absurd (Nat.eq_of_beq_eq_true h2).symm hne
    · exact fun e' => Nat.ne_of_beq_eq_false h2 e'.symm
  have later : ∀ (ts' : List Nat) (pre' : List Nat), aheadB l pre' ts' = true → ∀ u ∈ ts', ∀ j ∈ pre', (((masks l [])[u]?).getD 0).testBit j = true := by
    intro ts'
    induction ts' with
    | nil => intro pre' _ u hu; cases hu
    | cons x xs ihx =>
      intro pre' h u hu j hj
      simp only [aheadB, Bool.and_eq_true] at h
      rcases List.mem_cons.1 hu with rfl | hu
      · exact List.all_eq_true.1 h.1 j hj
      · exact ihx _ h.2 u hu j (List.mem_append_left _ hj)
  have hfin : ∀ (listed : Array Bool) (a : Act) (w : World) (F : Blk), listed.size = l.length → (∀ j, j ∈ bs → j < l.length → listed.getD j false = true) → (∀ j, j ∈ ts → listed.getD j false = false) → (∀ j, j ∈ az → j < l.length → listed.getD j false = true) →
      Closed l (fun j => listed.getD j false = true) → Sat E Γ M a w F → DoneL l az Ss (fun j => listed.getD j false = true) a w F → ∀ fuel, listed.toList.countP (· == false) ≤ fuel → wpAny P .any l.toArray Q fuel listed a w := by
    intro listed a w F hsz hb ht ha hc s hdone fuel hcnt
    refine phaseT hback ts _ hah hnd hin fuel listed a w ?_ hsz (fun j hj hn => ?_) ht (fun t ht hm => hta t ht (List.mem_filter.1 hm).1) hc (k a w F (s.wider ?_))
    · -- the tail's places are all unlisted
      refine Nat.le_trans ?_ hcnt
      have hinj : ∀ (ts' : List Nat), nodupB ts' = true → inB l.length ts' = true → (∀ j, j ∈ ts' → listed.getD j false = false) → ts'.length ≤ listed.toList.countP (· == false) := by
        intro ts' hnd' hin' hun'
        have e : listed.toList.countP (· == false) = ((List.range l.length).filter fun i => listed.getD i true == false).length := by
          rw [← List.countP_eq_length_filter]
          have : listed.toList = (List.range l.length).map fun i => listed.getD i true := by
            apply List.ext_getElem
            · simp [hsz]
            · intro i h1 h2
              have hi : i < listed.size := by simpa using h1
              simp [hi]
          rw [this, List.countP_map]; rfl
        rw [e]
        have hsub : ts' ⊆ (List.range l.length).filter fun i => listed.getD i true == false := by
          intro j hj
          have hjl : j < l.length := by
            have := List.all_eq_true.1 hin' j hj
            simpa [Nat.blt_eq] using this
          rw [List.mem_filter]
          refine ⟨by simpa using hjl, ?_⟩
          rw [gd listed j (by omega), hun' j hj]; rfl
        have hnodup : ts'.Nodup := by
          clear hun' hsub hin'
          induction ts' with
          | nil => exact List.nodup_nil
          | cons x xs ih =>
            simp only [nodupB, Bool.and_eq_true, Bool.not_eq_true'] at hnd'
            exact List.nodup_cons.2 ⟨by have := hnd'.1; simpa using this, ih hnd'.2⟩
        exact hnodup.length_le_of_subset hsub
      exact hinj ts hnd hin ht
    · rcases hcase j hj with h | h | h
      · exact hb j h hj
      · exact ha j h hj
      · exact absurd h hn
    · intro t S hlook
      rw [look_append] at hlook
      cases hl : look (dctxL l az Ss) t with
      | none => rw [hl] at hlook; exact s.slots t S (by simpa using hlook)
      | some S' =>
        rw [hl] at hlook
        obtain rfl : S' = S := by simpa using hlook
        obtain ⟨k', j, o, h1, h2, h3, h4⟩ := look_dctxL _ _ _ _ hl
        have hjl : j < l.length := by
          rcases Nat.lt_or_ge j l.length with h' | h'
          · exact h'
          · rw [List.getElem?_eq_none h'] at h2; cases h2
        exact hdone k' j o t S' h1 (ha j (List.mem_of_getElem? h1) hjl) h2 h3 h4
  intro fuel
  induction fuel with
  | zero =>
    intro listed a w F hcnt hsz hb ht hc s hdone
    refine hfin listed a w F hsz hb ht (fun j hj hjl => ?_) hc s hdone 0 hcnt
    have h0 : listed.toList.countP (· == false) = 0 := by omega
    rw [List.countP_eq_zero] at h0
    have hlt : j < listed.size := by omega
    have := h0 listed[j] (by simp)
    simp [hlt]
    simpa using this
  | succ fuel ih =>
    intro listed a w F hcnt hsz hb ht hc s hdone
    have hupd : ∀ (i ki : Nat) (o : Oper) (d : Nat) (S : VP), l[i]? = some o → i ∈ az → az[ki]? = some i → o.dst = some d → d < E.n → Ss[ki]? = some S → listed.getD i true = false → (∀ e ∈ o.after, Region.binds .any e = true → listed.getD e.on false = true) →
        ∀ v w' F', Adv w F w' F' → S.h w' F' v → wpAny P .any l.toArray Q fuel (listed.setIfInBounds i true) (a.put (some d) v) w' := by
      intro i ki o d S g2' hias hki a2 a3 a4 g1 g3 v w' F' ad hv
      have hil : i < l.length := by
        rcases Nat.lt_or_ge i l.length with h' | h'
        · exact h'
        · rw [List.getElem?_eq_none h'] at g2'; cases g2'
      have hbind : (l[i]?).bind (·.dst) = some d := by rw [g2']; exact a2
      obtain ⟨ap1, ap2⟩ := hapart i d hias hbind
      have s1 := s.adv ad
      refine ih _ _ w' F' ?_ (by simp [hsz]) (fun j hj hjl => getD_set_true (hb j hj hjl)) (fun j hj => ?_) ?_ (s1.putOut a3 v ap1) ?_
      · have hlt : i < listed.toList.length := by simp; omega
        have hli : listed.toList[i] = false := by
          have : i < listed.size := by omega
          simp [this] at g1; simpa using g1
        rw [Array.toList_setIfInBounds, List.countP_set hlt]
        rw [hli]
        have hpos : 0 < listed.toList.countP (· == false) := List.countP_pos_iff.2 ⟨false, by rw [← hli]; exact List.getElem_mem _, rfl⟩
        simp only [beq_self_eq_true, if_true]
        show _ - 1 + 0 ≤ fuel
        omega
      · have hne : i ≠ j := fun e => hta j hj (e ▸ hias)
        rw [getD_set_ne false hne]; exact ht j hj
      · intro j oj hj hL e he hbb
        by_cases ek : j = i
        · subst ek
          rw [g2'] at hj; obtain rfl := Option.some.inj hj
          exact getD_set_true (g3 e he hbb)
        · exact getD_set_true (hc j oj hj (by
            have hL' : (listed.setIfInBounds i true).getD j false = true := hL
            rwa [getD_set_ne false (fun h => ek h.symm)] at hL') e he hbb)
      · intro k' j oj dj Sj hkj hL hj hdj hSj
        rw [getD_put (by rw [s1.size]; exact a3)]
        by_cases ek : j = i
        · subst ek
          rw [g2'] at hj; obtain rfl := Option.some.inj hj
          rw [a2] at hdj; obtain rfl := Option.some.inj hdj
          rw [if_pos rfl]
          obtain rfl := nodup_at hna hkj hki
          rw [a4] at hSj; obtain rfl := Option.some.inj hSj
          exact hv
        · have hjas : j ∈ az := List.mem_of_getElem? hkj
          have hne := ap2 j dj hjas ek (by rw [hj]; exact hdj)
          rw [if_neg (fun e => hne e.symm)]
          refine Sj.mono _ _ _ _ _ (hdone k' j oj dj Sj hkj ?_ hj hdj hSj) (ad.same s.flt) ad.sub
          have hL' : (listed.setIfInBounds i true).getD j false = true := hL
          rwa [getD_set_ne false (fun h => ek h.symm)] at hL'
    have hctx : ∀ (i : Nat) (o : Oper) (Δ : Ctx), l[i]? = some o → i < l.length → (∀ e ∈ o.after, Region.binds .any e = true → listed.getD e.on false = true) →
        (∀ t S, look Δ t = some S → (∃ (k j : Nat) (oj : Oper), az[k]? = some j ∧ (((masks l [])[i]?).getD 0).testBit j = true ∧ l[j]? = some oj ∧ oj.dst = some t ∧ Ss[k]? = some S) ∨ look Γ t = some S) → Sat E Δ M a w F := by
      intro i o Δ g2' hil g3 a6
      have hmask : i < (masks l []).length := by rw [masks_len]; simpa using hil
      exact s.wider (fun t S' hlk => by
        rcases a6 t S' hlk with ⟨k', j, oj, b00, b0, b1, b2, b3⟩ | h
        · rw [List.getElem?_eq_getElem hmask] at b0
          exact hdone k' j oj t S' b00 (reach hc i o g2' g3 j _ (List.getElem?_eq_getElem hmask) (by simpa using b0)) b1 b2 b3
        · exact s.slots t S' h)
    by_cases heag : ∃ e, e ∈ es ∧ e ∈ Region.ready .any l.toArray listed
    · -- one that reads no memory is ready: it is taken
      obtain ⟨i, hie, hir⟩ := heag
      have hi0 := hir
      rw [mem_ready] at hi0
      obtain ⟨g1, o, g2, g3⟩ := hi0
      have g2' : l[i]? = some o := by simpa using g2
      have hil : i < l.length := by
        rcases Nat.lt_or_ge i l.length with h' | h'
        · exact h'
        · rw [List.getElem?_eq_none h'] at g2'; cases g2'
      have he1 := List.all_eq_true.1 heg i hie
      simp only [Bool.and_eq_true] at he1
      have hias : i ∈ az := List.contains_iff_mem.1 he1.1.1
      obtain ⟨ki, hki⟩ := List.mem_iff_getElem?.1 hias
      obtain ⟨o', d, S, Δ, a1, a2, a3, a4, a6, a7, a8⟩ := hat ki i hki
      rw [g2'] at a1; obtain rfl := Option.some.inj a1
      obtain ⟨hy, hgd⟩ := a8 (List.contains_iff_mem.2 hie)
      obtain ⟨v, hv, hS⟩ := hy a w F (hctx i o Δ g2' hil g3 a6)
      have hfr : ∀ j oj, l.toArray[j]? = some oj → j ≠ i → listed.getD j true = false → (∀ e ∈ oj.after, Region.binds .any e = true → e.on ≠ i) → o.apart l.toArray oj = true := by
        intro j oj hj hne hun hno
        have hj' : l[j]? = some oj := by simpa using hj
        have hjl : j < l.length := by
          rcases Nat.lt_or_ge j l.length with h' | h'
          · exact h'
          · rw [List.getElem?_eq_none h'] at hj'; cases hj'
        have hf := he1.1.2
        unfold freeB at hf
        rw [g2'] at hf
        have h1 := List.all_eq_true.1 hf j (by simpa using hjl)
        rw [hj'] at h1
        simp only [Bool.or_eq_true, beq_iff_eq, hne, false_or] at h1
        rcases h1 with h1 | h1 | h1
        · exfalso
          have hmask : i < (masks l []).length := by rw [masks_len]; simpa using hil
          rw [List.getElem?_eq_getElem hmask] at h1
          have := reach hc i o g2' g3 j _ (List.getElem?_eq_getElem hmask) (by simpa using h1)
          rw [gd listed j (by omega)] at hun
          have h3 : listed.getD j false = true := this
          rw [h3] at hun; cases hun
        · obtain ⟨e, he, hb'⟩ := Array.any_eq_true'.1 h1
          simp only [Bool.and_eq_true, beq_iff_eq] at hb'
          exact absurd hb'.2 (hno e he hb'.1)
        · exact h1
      refine wpAny_first g2 (Region.noSelect_spec hsel) (fun c a w h => hQ c a w d v (by rw [a2] at h; exact h)) fuel listed a w hfr hir (.inl ⟨by simp [Region.wanted, hgd], hv⟩) ?_
      rw [a2]
      exact hupd i ki o d S g2' hias hki a2 a3 a4 g1 g3 v w F (Adv.refl _ _) hS
    by_cases hall : ∀ j, j ∈ az → j < l.length → listed.getD j false = true
    · exact hfin listed a w F hsz hb ht hall hc s hdone _ hcnt
    · have hex : ∃ j, j < l.length ∧ listed.getD j true = false := by
        refine Classical.byContradiction fun hno => hall fun j hj hjl => ?_
        rw [← gd listed j (by omega)]
        cases hbb : listed.getD j true with
        | true => rfl
        | false => exact absurd ⟨j, hjl, hbb⟩ hno
      refine ⟨fun hr => ?_, fun i hi => ?_⟩
      · obtain ⟨j, ⟨hj1, hj2⟩, hmin⟩ := exists_least hex
        have : j ∈ Region.ready .any l.toArray listed := by
          rw [mem_ready]
          refine ⟨hj2, l[j], by simp [hj1], fun e he hbb => ?_⟩
          have hlt := hsp j _ (List.getElem?_eq_getElem hj1) e he hbb
          cases hb2 : listed.getD e.on true with
          | true => rw [gd listed e.on (by omega)] at hb2; exact hb2
          | false => have := hmin e.on ⟨by omega, hb2⟩; omega
        rw [hr] at this; simp at this
      · have hi' := hi
        rw [mem_ready] at hi
        obtain ⟨g1, o, g2, g3⟩ := hi
        have g2' : l[i]? = some o := by simpa using g2
        have hil : i < l.length := by
          rcases Nat.lt_or_ge i l.length with h' | h'
          · exact h'
          · rw [List.getElem?_eq_none h'] at g2'; cases g2'
        have hmask : i < (masks l []).length := by rw [masks_len]; simpa using hil
        have hias : i ∈ az := by
          rcases hcase i hil with h | h | h
          · rw [gd listed i (by omega), hb i h hil] at g1; cases g1
          · exact h
          · exfalso
            have hna' : ∀ j, j ∈ az → j < l.length → es.contains j = false → listed.getD j false = true := by
              intro j hj hjl hje
              have hbit := later ts _ hah i h j (List.mem_filter.2 ⟨hj, by rw [hje]; rfl⟩)
              rw [List.getElem?_eq_getElem hmask] at hbit
              exact reach hc i o g2' g3 j _ (List.getElem?_eq_getElem hmask) (by simpa using hbit)
            refine hall fun j hj hjl => ?_
            refine Classical.byContradiction fun hno => ?_
            -- the least of the eager ones that are not listed is ready
            have hex2 : ∃ q, (q ∈ az ∧ q < l.length) ∧ listed.getD q false = false := ⟨j, ⟨hj, hjl⟩, by cases hbb : listed.getD j false with | true => exact absurd hbb hno | false => rfl⟩
            obtain ⟨q, ⟨⟨hq1, hq2⟩, hq3⟩, hqmin⟩ := exists_least hex2
            have hqe : es.contains q = true := by
              cases hbb : es.contains q with
              | true => rfl
              | false => rw [hna' q hq1 hq2 hbb] at hq3; cases hq3
            have hqe' := List.contains_iff_mem.1 hqe
            refine heag ⟨q, hqe', ?_⟩
            rw [mem_ready]
            refine ⟨by rw [gd listed q (by omega)]; exact hq3, l[q], by simp [hq2], fun e he hbb => ?_⟩
            have hlt := hsp q _ (List.getElem?_eq_getElem hq2) e he hbb
            have he1 := List.all_eq_true.1 heg q hqe'
            simp only [Bool.and_eq_true] at he1
            have he2 := he1.2
            rw [List.getElem?_eq_getElem hq2] at he2
            have he3 := List.all_eq_true.1 he2 e (by simpa using he)
            rw [hbb] at he3
            simp only [Bool.not_true, Bool.false_or, Bool.not_eq_true'] at he3
            rcases hcase e.on (by omega) with h' | h' | h'
            · exact hb e.on h' (by omega)
            · cases hb2 : listed.getD e.on false with
              | true => rfl
              | false => have := hqmin e.on ⟨⟨h', by omega⟩, hb2⟩; omega
            · rw [List.contains_iff_mem.2 h'] at he3; cases he3
        obtain ⟨ki, hki⟩ := List.mem_iff_getElem?.1 hias
        obtain ⟨o', d, S, Δ, a1, a2, a3, a4, a6, a7, _⟩ := hat ki i hki
        rw [g2'] at a1; obtain rfl := Option.some.inj a1
        have hstep := a7 a w F (hctx i o Δ g2' hil g3 a6) (wpAny P .any l.toArray Q fuel (listed.setIfInBounds i true)) Q
        have hgo : ∀ v w' F', Adv w F w' F' → S.h w' F' v → wpAny P .any l.toArray Q fuel (listed.setIfInBounds i true) (a.put o.dst v) w' := by
          intro v w' F' ad hv
          rw [a2]
          exact hupd i ki o d S g2' hias hki a2 a3 a4 g1 g3 v w' F' ad hv
        have hres := hstep hgo
        unfold wpOp
        have ho : l.toArray[i]? = some o := by simpa using g2'
        rw [ho]
        exact hres
/-- readings, step by step: Θ is what their slots hold -/
def DrC (E : Env) (P : Program) (l : List Oper) (Γ : Ctx) (M : Mem) (Q : Exit → Act → World → Prop) (es bs az : List Nat) (Θ : Ctx) : Prop :=
  ∀ Ss, DrL E P l Γ M es az Ss → (∀ t S, look Θ t = some S → ∃ (k j : Nat) (o : Oper), az[k]? = some j ∧ l[j]? = some o ∧ o.dst = some t ∧ Ss[k]? = some S) → DrB E P l Γ M Q bs
theorem DrB.go {l : List Oper} {bs : List Nat} (es : List Nat) (h : DrC E P l Γ M Q es bs [] []) : DrB E P l Γ M Q bs := h [] .nil (fun t S ht => by simp [look] at ht)
def behindL (l : List Oper) (i : Nat) (az ts : List Nat) : Bool :=
  let m := ((masks l [])[i]?).getD 0
  az.all fun j => m.testBit j || match (l[j]?).bind (·.dst) with
    | none => true
    | some d => ts.all fun t => !Nat.beq d t
theorem OKY.g {o : Oper} {S : VP} (hg : o.guard = none) (h : OKY E P Γ M o S) : OKG E P ops Γ M o S := OKG.o hg (.run fun a w F s => by
  obtain ⟨v, hv, hS⟩ := h a w F s
  exact ⟨v, hv w, hS⟩)
theorem DrC.stE {i d : Nat} {l : List Oper} {es bs az : List Nat} {Θ : Ctx} {S : VP} {o : Oper} (ts : List Nat) (h1 : l[i]? = some o) (h2 : o.dst = some d) (h3 : Nat.blt d E.n = true)
    (h4 : behindL l i az ts = true) (h5 : OKG E P l.toArray (keepc ts Θ ++ Γ) M o S) (h6 : es.contains i = true → OKY E P (keepc ts Θ ++ Γ) M o S ∧ o.guard = none) (k : DrC E P l Γ M Q es bs (az ++ [i]) ((d, S) :: Θ)) : DrC E P l Γ M Q es bs az Θ := by
  intro Ss hD hΘ
  obtain ⟨hlen, _⟩ := hD.at
  have up : ∀ {β : Type} (xs : List β) (x : β) (j : Nat) (T : β), xs[j]? = some T → (xs ++ [x])[j]? = some T := fun xs x j T hT => by
    have : j < xs.length := by
      rcases Nat.lt_or_ge j xs.length with h | h
      · exact h
      · rw [List.getElem?_eq_none h] at hT; cases hT
    rw [List.getElem?_append_left this]; exact hT
  refine k (Ss ++ [S]) (.snoc _ hD h1 h2 h3 (fun t S' ht => ?_) h5 h6) (fun t S' ht => ?_)
  · rw [look_append] at ht
    cases hl : look (keepc ts Θ) t with
    | none => rw [hl] at ht; exact .inr (by simpa using ht)
    | some S'' =>
      rw [hl] at ht
      obtain rfl : S'' = S' := by simpa using ht
      obtain ⟨hm, hl2⟩ := look_keepc _ _ _ hl
      obtain ⟨k', j, oj, b0, b1, b2, b3⟩ := hΘ t S'' hl2
      refine .inl ⟨k', j, oj, b0, ?_, b1, b2, b3⟩
      have := List.all_eq_true.1 h4 j (List.mem_of_getElem? b0)
      rw [b1] at this
      simp only [Option.bind_some, b2, Bool.or_eq_true] at this
      rcases this with h | h
      · exact h
      · have := List.all_eq_true.1 h t hm
        simp [Nat.beq_refl] at this
  · simp only [look] at ht
    cases hb : Nat.beq d t with
    | true =>
      rw [hb] at ht; simp at ht; subst ht
      obtain rfl := Nat.eq_of_beq_eq_true hb
      exact ⟨az.length, i, o, by simp, h1, h2, by rw [List.getElem?_append_right (by omega)]; simp [hlen]⟩
    | false =>
      rw [hb] at ht
      obtain ⟨k', j, oj, b0, b1, b2, b3⟩ := hΘ t S' ht
      exact ⟨k', j, oj, up _ _ _ _ b0, b1, b2, up _ _ _ _ b3⟩
theorem DrC.st {i d : Nat} {l : List Oper} {es bs az : List Nat} {Θ : Ctx} {S : VP} {o : Oper} (ts : List Nat) (h1 : l[i]? = some o) (h2 : o.dst = some d) (h3 : Nat.blt d E.n = true)
    (h4 : behindL l i az ts = true) (h0 : es.contains i = false) (h5 : OKG E P l.toArray (keepc ts Θ ++ Γ) M o S) (k : DrC E P l Γ M Q es bs (az ++ [i]) ((d, S) :: Θ)) : DrC E P l Γ M Q es bs az Θ :=
  DrC.stE ts h1 h2 h3 h4 h5 (fun h => by rw [h0] at h; cases h) k
theorem DrC.ea {i d : Nat} {l : List Oper} {es bs az : List Nat} {Θ : Ctx} {S : VP} {o : Oper} (ts : List Nat) (h1 : l[i]? = some o) (h2 : o.dst = some d) (h3 : Nat.blt d E.n = true)
    (h4 : behindL l i az ts = true) (hg : o.guard = none) (h5 : OKY E P (keepc ts Θ ++ Γ) M o S) (k : DrC E P l Γ M Q es bs (az ++ [i]) ((d, S) :: Θ)) : DrC E P l Γ M Q es bs az Θ :=
  DrC.stE ts h1 h2 h3 h4 (OKY.g hg h5) (fun _ => ⟨h5, hg⟩) k
/-- what has been taken is closed, and just that is listed -/
def takenB (l : List Oper) (bs : List Nat) : Bool := (bs.all fun i => match l[i]? with
    | none => true
    | some o => o.after.toList.all fun e => !Region.binds .any e || bs.contains e.on) &&
  ((List.range l.length).all fun i => (arrOf l.length bs).getD i false == bs.contains i) && Nat.ble ((arrOf l.length bs).toList.countP (· == false)) (l.length - bs.length)
theorem DrC.fin {l : List Oper} {es bs az : List Nat} {Θ : Ctx} (ts : List Nat) (hsel : Region.noSelect l.toArray = true) (heg : eagerB l es az ts = true) (hQ : ∀ c a w d v, Q (.panic c) (Act.put a (some d) v) w → Q (.panic c) a w) (htk : takenB l bs = true) (hap : apartL l az Γ = true) (hback : backB l = true) (hpart : partB l.length bs az ts = true) (hdis : disjB bs az ts = true) (hah : aheadB l (az.filter fun i => !es.contains i) ts = true) (hnd : nodupB ts = true) (hna : nodupB az = true) (hin : inB l.length ts = true)
    (k : Ops E P l.toArray Q (ts.filterMap fun i => l[i]?) (Θ ++ Γ) M) : DrC E P l Γ M Q es bs az Θ := by
  intro Ss hD hΘ a w F s
  simp only [takenB, Bool.and_eq_true] at htk
  obtain ⟨⟨t1, t2⟩, t3⟩ := htk
  have hlist : ∀ i, i < l.length → ((arrOf l.length bs).getD i false = true ↔ i ∈ bs) := fun i hi => by
    have := List.all_eq_true.1 t2 i (by simpa using hi)
    have h2 : (arrOf l.length bs).getD i false = bs.contains i := by simpa using this
    rw [h2, List.contains_iff_mem]
  have hsz := arrOf_size l.length bs
  have hout : ∀ i, l.length ≤ i → (arrOf l.length bs).getD i false = false := fun i hi => by
    have : ¬ i < (arrOf l.length bs).size := by omega
    simp [this]
  have hsame : ∀ t S, look (Θ ++ Γ) t = some S → look (dctxL l az Ss ++ Γ) t = some S := by
    intro t S ht
    rw [look_append] at ht
    rw [look_append]
    have hdl : ∀ i d, i ∈ az → (l[i]?).bind (·.dst) = some d → (∀ t S, look Γ t = some S → t ≠ d) ∧ ∀ j e, j ∈ az → j ≠ i → (l[j]?).bind (·.dst) = some e → e ≠ d := by
      intro i d hi hd
      have h1 := List.all_eq_true.1 hap i hi
      rw [hd] at h1
      simp only [Bool.and_eq_true] at h1
      refine ⟨look_none h1.1, fun j e hj hne he => ?_⟩
      have h2 := List.all_eq_true.1 h1.2 j hj
      rw [he] at h2
      simp only [Bool.or_eq_true, Bool.not_eq_true'] at h2
      rcases h2 with h2 | h2
      · exact absurd (Nat.eq_of_beq_eq_true h2).symm hne
      · exact fun e' => Nat.ne_of_beq_eq_false h2 e'.symm
    cases hl : look Θ t with
    | none =>
      rw [hl] at ht
      have ht' : look Γ t = some S := by simpa using ht
      have hno : look (dctxL l az Ss) t = none := by
        cases hd : look (dctxL l az Ss) t with
        | none => rfl
        | some S' =>
          obtain ⟨k', j, o, b0, b1, b2, b3⟩ := look_dctxL _ _ _ _ hd
          exact absurd rfl ((hdl j t (List.mem_of_getElem? b0) (by rw [b1]; exact b2)).1 t S ht')
      rw [hno]; simpa using ht'
    | some S' =>
      rw [hl] at ht
      obtain rfl : S' = S := by simpa using ht
      obtain ⟨k', j, o, b0, b1, b2, b3⟩ := hΘ t S' hl
      have hex : ∀ (as' : List Nat) (Ss' : List VP) (k : Nat), as'[k]? = some j → Ss'[k]? = some S' → nodupB as' = true → (∀ j', j' ∈ as' → j' ≠ j → (l[j']?).bind (·.dst) ≠ some t) → look (dctxL l as' Ss') t = some S' := by
        intro as'
        induction as' with
        | nil => intro Ss' k h; simp at h
        | cons x as' ih =>
          intro Ss' k h1 h2 hn h3
          simp only [nodupB, Bool.and_eq_true, Bool.not_eq_true'] at hn
          have hxn : x ∉ as' := by have := hn.1; simpa using this
          cases Ss' with
          | nil => simp at h2
          | cons T Ss' =>
            cases k with
            | zero =>
              have e1 : x = j := by simpa using h1
              have e2 : T = S' := by simpa using h2
              subst e1; subst e2
              simp only [dctxL, b1, Option.bind_some, b2, look, Nat.beq_refl]
            | succ k =>
              have hjm : j ∈ as' := List.mem_of_getElem? (show as'[k]? = some j by simpa using h1)
              have hxj : x ≠ j := fun e => hxn (e ▸ hjm)
              have hrec := ih Ss' k (by simpa using h1) (by simpa using h2) hn.2 (fun j' hj' hne => h3 j' (by simp [hj']) hne)
              have h0 := h3 x (by simp) hxj
              simp only [dctxL]
              cases hd : (l[x]?).bind (·.dst) with
              | none => exact hrec
              | some d' =>
                simp only [look]
                have hne : Nat.beq d' t = false := by
                  cases hb : Nat.beq d' t with
                  | false => rfl
                  | true => exact absurd (by rw [hd, Nat.eq_of_beq_eq_true hb]) h0
                rw [hne]; exact hrec
      have hlk := hex az Ss k' b0 b3 hna (fun j' hj' hne he' => (hdl j t (List.mem_of_getElem? b0) (by rw [b1]; exact b2)).2 j' t hj' hne he' rfl)
      rw [hlk]; rfl
  refine phaseL (bs := bs) hD hsel heg hQ hap hback hpart hdis hah hnd hna hin (fun a w F s => k a w F (s.wider fun t S ht => s.slots t S (hsame t S ht))) _ _ a w F (Nat.le_of_ble_eq_true t3) hsz (fun j hj hjl => (hlist j hjl).2 hj) (fun j hj => ?_) ?_ s ?_
  · rcases Nat.lt_or_ge j l.length with h | h
    · cases hb : (arrOf l.length bs).getD j false with
      | false => rfl
      | true =>
        exfalso
        simp only [disjB, Bool.and_eq_true, List.all_eq_true, Bool.not_eq_true'] at hdis
        have := (hdis.1 j hj).1
        have hm := (hlist j h).1 hb
        rw [← List.contains_iff_mem, this] at hm; cases hm
    · exact hout j h
  · intro i o ho hL e he hb
    have hil : i < l.length := by
      rcases Nat.lt_or_ge i l.length with h' | h'
      · exact h'
      · rw [List.getElem?_eq_none h'] at ho; cases ho
    have hib := (hlist i hil).1 hL
    have := List.all_eq_true.1 t1 i hib
    rw [ho] at this
    have h2 := List.all_eq_true.1 this e (by simpa using he)
    rw [hb] at h2
    simp only [Bool.not_true, Bool.false_or] at h2
    have hlt := backB_spec hback i o ho e he hb
    exact (hlist e.on (by omega)).2 (List.contains_iff_mem.1 h2)
  · intro k' j o d S hkj hL hj hd hS
    have hjl : j < l.length := by
      rcases Nat.lt_or_ge j l.length with h' | h'
      · exact h'
      · rw [List.getElem?_eq_none h'] at hj; cases hj
    have hjb := (hlist j hjl).1 hL
    exfalso
    simp only [disjB, Bool.and_eq_true, List.all_eq_true, Bool.not_eq_true'] at hdis
    have := hdis.2 j (List.mem_of_getElem? hkj)
    rw [← List.contains_iff_mem, this] at hjb; cases hjb
end
end Go.En
