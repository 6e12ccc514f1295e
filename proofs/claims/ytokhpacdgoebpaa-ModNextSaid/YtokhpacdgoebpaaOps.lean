/- The rules for the single operations. -/
import Derived.Test.YtokhpacdgoebpaaEn
namespace Go.En
open Go.RowKit
set_option linter.unusedVariables false

section
variable {E : Env} {P : Program} {Γ : Ctx} {M : Mem} {d : Option Tmp} {ty : TypeId} {pos : String} {after : Array Edge} {gd : Option (Nat × Bool)}

theorem OK1.mv {x : Operand} {S : VP} (h : Has E Γ M x S) : OK1 E P Γ M ⟨d, .move x, ty, pos, after, gd⟩ S :=
  .run fun a w F s => ⟨_, rfl, h a w F s⟩
theorem OK1.as {x : Operand} {S : VP} (h : Has E Γ M x S) : OK1 E P Γ M ⟨d, .assign x, ty, pos, after, gd⟩ S :=
  .run fun a w F s => ⟨_, rfl, h a w F s⟩

theorem wrap_in {k : IntKind} {z : Int} (h : rng k z) : k.wrap z = z := by
  obtain ⟨h1, h2⟩ := h
  cases k <;> simp [IntKind.wrap, IntKind.min, IntKind.max, IntKind.signed, IntKind.bits] at * <;> (try split) <;> omega
theorem wrap_rng (k : IntKind) (z : Int) : rng k (k.wrap z) := by
  cases k <;> simp only [rng, IntKind.wrap, IntKind.min, IntKind.max, IntKind.signed, IntKind.bits] <;> simp <;> (try split) <;> omega
theorem wrap_u64 (z : Int) : IntKind.u64.wrap z = z % 18446744073709551616 := by simp [IntKind.wrap, IntKind.signed, IntKind.bits]
theorem wrap_i64 {z : Int} (h : -9223372036854775808 ≤ z) (h' : z < 9223372036854775808) : IntKind.i64.wrap z = z :=
  wrap_in (k := .i64) ⟨by simp [IntKind.min, IntKind.signed, IntKind.bits]; omega, by simp [IntKind.max, IntKind.signed, IntKind.bits]; omega⟩

/-- one number that an operation makes of two -/
theorem OK1.bin {op : BinOp} {T T' : TypeId} {x y : Operand} {k : IntKind} {m n : Int} {v : Value} {S : VP}
    (hx : ∀ a w F, Sat E Γ M a w F → a.eval x = .int k m) (hy : ∀ a w F, Sat E Γ M a w F → a.eval y = .int k n)
    (hr : ∀ w, (binOp op T (.int k m) (.int k n)).run P w = .ok v w) (hS : ∀ w F, S.h w F v) : OK1 E P Γ M ⟨d, .binOp op T x y T', ty, pos, after, gd⟩ S :=
  .run fun a w F s => ⟨v, by
    have h1 := hx a w F s
    have h2 := hy a w F s
    have h3 := hr w
    simp only [execOp, h1, h2]
    simp [go_sem, h3], hS w F⟩

theorem evU {x : Operand} {n : Nat} (h : Has E Γ M x (isU n)) : ∀ a w F, Sat E Γ M a w F → a.eval x = .int .u64 n := fun a w F s => (h a w F s).1
theorem evI {x : Operand} {n : Int} (h : Has E Γ M x (isI n)) : ∀ a w F, Sat E Γ M a w F → a.eval x = .int .i64 n := fun a w F s => (h a w F s).1
theorem evK {k : IntKind} {x : Operand} {n : Int} (h : Has E Γ M x (isK k n)) : ∀ a w F, Sat E Γ M a w F → a.eval x = .int k n := fun a w F s => (h a w F s).1

theorem isU_of {n : Nat} {z : Int} (h : z = (n : Int)) (h2 : n < 18446744073709551616) (w : World) (F : Blk) : (isU n).h w F (.int .u64 z) := ⟨by rw [h], h2⟩
theorem isI_of {z : Int} (h1 : -9223372036854775808 ≤ z) (h2 : z < 9223372036854775808) (w : World) (F : Blk) : (isI z).h w F (.int .i64 z) := ⟨rfl, h1, h2⟩

theorem sat_any (w : World) : True := trivial

section
variable {T T' : TypeId} {x y : Operand} {m n : Nat} {i j : Int}

theorem run_add (k : IntKind) (m n : Int) (w : World) : (binOp .add T (.int k m) (.int k n)).run P w = .ok (.int k (k.wrap (m + n))) w := by simp [binOp, Op.intArith, go_sem]
theorem run_sub (k : IntKind) (m n : Int) (w : World) : (binOp .sub T (.int k m) (.int k n)).run P w = .ok (.int k (k.wrap (m - n))) w := by simp [binOp, Op.intArith, go_sem]
theorem run_mul (k : IntKind) (m n : Int) (w : World) : (binOp .mul T (.int k m) (.int k n)).run P w = .ok (.int k (k.wrap (m * n))) w := by simp [binOp, Op.intArith, go_sem]
theorem run_quo (k : IntKind) (m n : Int) (h : n ≠ 0) (w : World) : (binOp .quo T (.int k m) (.int k n)).run P w = .ok (.int k (k.wrap (m.tdiv n))) w := by simp [binOp, Op.intDiv, go_sem, h]
theorem run_rem (k : IntKind) (m n : Int) (h : n ≠ 0) (w : World) : (binOp .rem T (.int k m) (.int k n)).run P w = .ok (.int k (m.tmod n)) w := by simp [binOp, Op.intDiv, go_sem, h]

theorem OK1.addU (hx : Has E Γ M x (isU m)) (hy : Has E Γ M y (isU n)) : OK1 E P Γ M ⟨d, .binOp .add T x y T', ty, pos, after, gd⟩ (isU ((m + n) % 18446744073709551616)) :=
  .bin (evU hx) (evU hy) (run_add _ _ _) (fun w F => isU_of (by rw [wrap_u64]; omega) (by omega) w F)
theorem OK1.addU' (hx : Has E Γ M x (isU m)) (hy : Has E Γ M y (isU n)) (h : m + n < 18446744073709551616) : OK1 E P Γ M ⟨d, .binOp .add T x y T', ty, pos, after, gd⟩ (isU (m + n)) :=
  .bin (evU hx) (evU hy) (run_add _ _ _) (fun w F => isU_of (by rw [wrap_u64]; omega) (by omega) w F)
theorem OK1.subU (hx : Has E Γ M x (isU m)) (hy : Has E Γ M y (isU n)) (hn : n < 18446744073709551616) : OK1 E P Γ M ⟨d, .binOp .sub T x y T', ty, pos, after, gd⟩ (isU ((m + (18446744073709551616 - n)) % 18446744073709551616)) :=
  .bin (evU hx) (evU hy) (run_sub _ _ _) (fun w F => isU_of (by rw [wrap_u64]; omega) (by omega) w F)
theorem OK1.subU' (hx : Has E Γ M x (isU m)) (hy : Has E Γ M y (isU n)) (h : n ≤ m) (h2 : m < 18446744073709551616) : OK1 E P Γ M ⟨d, .binOp .sub T x y T', ty, pos, after, gd⟩ (isU (m - n)) :=
  .bin (evU hx) (evU hy) (run_sub _ _ _) (fun w F => isU_of (by rw [wrap_u64]; omega) (by omega) w F)
theorem OK1.mulU (hx : Has E Γ M x (isU m)) (hy : Has E Γ M y (isU n)) : OK1 E P Γ M ⟨d, .binOp .mul T x y T', ty, pos, after, gd⟩ (isU (m * n % 18446744073709551616)) :=
  .bin (evU hx) (evU hy) (run_mul _ _ _) (fun w F => isU_of (by rw [wrap_u64, ← Int.natCast_mul]; rfl) (Nat.mod_lt _ (by decide)) w F)
theorem OK1.mulU' (hx : Has E Γ M x (isU m)) (hy : Has E Γ M y (isU n)) (h : m * n < 18446744073709551616) : OK1 E P Γ M ⟨d, .binOp .mul T x y T', ty, pos, after, gd⟩ (isU (m * n)) :=
  .bin (evU hx) (evU hy) (run_mul _ _ _) (fun w F => isU_of (by rw [wrap_u64, ← Int.natCast_mul]; omega) h w F)
theorem OK1.quoU (hx : Has E Γ M x (isU m)) (hy : Has E Γ M y (isU n)) (h : n ≠ 0) (h2 : m < 18446744073709551616) : OK1 E P Γ M ⟨d, .binOp .quo T x y T', ty, pos, after, gd⟩ (isU (m / n)) :=
  have hlt : m / n < 18446744073709551616 := Nat.lt_of_le_of_lt (Nat.div_le_self _ _) h2
  .bin (evU hx) (evU hy) (run_quo _ _ _ (by omega)) (fun w F => isU_of (by
    rw [wrap_u64, Int.tdiv_eq_ediv_of_nonneg (by omega), ← Int.natCast_ediv]; generalize m / n = q at *; omega) hlt w F)
theorem OK1.remU (hx : Has E Γ M x (isU m)) (hy : Has E Γ M y (isU n)) (h : n ≠ 0) (h2 : m < 18446744073709551616) : OK1 E P Γ M ⟨d, .binOp .rem T x y T', ty, pos, after, gd⟩ (isU (m % n)) :=
  have hlt : m % n < 18446744073709551616 := Nat.lt_of_le_of_lt (Nat.mod_le _ _) h2
  .bin (evU hx) (evU hy) (run_rem _ _ _ (by omega)) (fun w F => isU_of (by
    rw [Int.tmod_eq_emod_of_nonneg (by omega), ← Int.natCast_emod]) hlt w F)

theorem OK1.addI (hx : Has E Γ M x (isI i)) (hy : Has E Γ M y (isI j)) (h1 : -9223372036854775808 ≤ i + j) (h2 : i + j < 9223372036854775808) : OK1 E P Γ M ⟨d, .binOp .add T x y T', ty, pos, after, gd⟩ (isI (i + j)) :=
  .bin (evI hx) (evI hy) (run_add _ _ _) (fun w F => by rw [wrap_i64 h1 h2]; exact isI_of h1 h2 w F)
theorem OK1.subI (hx : Has E Γ M x (isI i)) (hy : Has E Γ M y (isI j)) (h1 : -9223372036854775808 ≤ i - j) (h2 : i - j < 9223372036854775808) : OK1 E P Γ M ⟨d, .binOp .sub T x y T', ty, pos, after, gd⟩ (isI (i - j)) :=
  .bin (evI hx) (evI hy) (run_sub _ _ _) (fun w F => by rw [wrap_i64 h1 h2]; exact isI_of h1 h2 w F)
theorem OK1.mulI (hx : Has E Γ M x (isI i)) (hy : Has E Γ M y (isI j)) (h1 : -9223372036854775808 ≤ i * j) (h2 : i * j < 9223372036854775808) : OK1 E P Γ M ⟨d, .binOp .mul T x y T', ty, pos, after, gd⟩ (isI (i * j)) :=
  .bin (evI hx) (evI hy) (run_mul _ _ _) (fun w F => by rw [wrap_i64 h1 h2]; exact isI_of h1 h2 w F)
theorem OK1.quoI (hx : Has E Γ M x (isI i)) (hy : Has E Γ M y (isI j)) (h : 0 ≤ i) (h' : 0 < j) (h2 : i < 9223372036854775808) : OK1 E P Γ M ⟨d, .binOp .quo T x y T', ty, pos, after, gd⟩ (isI (i / j)) :=
  have h3 : i / j ≤ i := Int.ediv_le_self _ h
  have h4 : 0 ≤ i / j := Int.ediv_nonneg h (by omega)
  .bin (evI hx) (evI hy) (run_quo _ _ _ (by omega)) (fun w F => by rw [Int.tdiv_eq_ediv_of_nonneg h, wrap_i64 (by omega) (by omega)]; exact isI_of (by omega) (by omega) w F)
theorem OK1.remI (hx : Has E Γ M x (isI i)) (hy : Has E Γ M y (isI j)) (h : 0 ≤ i) (h' : 0 < j) (h2 : i < 9223372036854775808) : OK1 E P Γ M ⟨d, .binOp .rem T x y T', ty, pos, after, gd⟩ (isI (i % j)) :=
  have h3 : 0 ≤ i % j := Int.emod_nonneg _ (by omega)
  have h4 : i % j ≤ i := by have := Int.emod_add_mul_ediv i j; have : 0 ≤ j * (i / j) := Int.mul_nonneg (by omega) (Int.ediv_nonneg h (by omega)); omega
  .bin (evI hx) (evI hy) (run_rem _ _ _ (by omega)) (fun w F => by rw [Int.tmod_eq_emod_of_nonneg h]; exact isI_of (by omega) (by omega) w F)

/-- whatever the kind: with the wrap -/
theorem OK1.remK {k : IntKind} (hx : Has E Γ M x (isK k i)) (hy : Has E Γ M y (isK k j)) (h : 0 ≤ i) (h' : 0 < j) (hr : i ≤ k.max) : OK1 E P Γ M ⟨d, .binOp .rem T x y T', ty, pos, after, gd⟩ (isK k (i % j)) :=
  have h3 : 0 ≤ i % j := Int.emod_nonneg _ (by omega)
  have h4 : i % j ≤ i := by have := Int.emod_add_mul_ediv i j; have : 0 ≤ j * (i / j) := Int.mul_nonneg (by omega) (Int.ediv_nonneg h (by omega)); omega
  have h5 : k.min ≤ 0 := by cases k <;> decide
  .bin (evK hx) (evK hy) (run_rem _ _ _ (by omega)) (fun w F => by rw [Int.tmod_eq_emod_of_nonneg h]; exact ⟨rfl, by omega, by omega⟩)

def cmpOf (op : BinOp) (m n : Int) : Bool := match op with | .eql => m == n | .neq => m != n | .lss => m < n | .leq => m ≤ n | .gtr => m > n | _ => m ≥ n
theorem run_cmp (op : BinOp) (k : IntKind) (m n : Int) (b : Bool) (hop : cmpOf op m n = b) (hne : op = .eql ∨ op = .neq ∨ op = .lss ∨ op = .leq ∨ op = .gtr ∨ op = .geq) (w : World) :
    (binOp op T (.int k m) (.int k n)).run P w = .ok (.bool b) w := by
  rcases hne with rfl | rfl | rfl | rfl | rfl | rfl <;> simp only [cmpOf] at hop <;> simp [binOp, Op.intCmp, go_sem] <;> exact hop

theorem OK1.ltU (hx : Has E Γ M x (isU m)) (hy : Has E Γ M y (isU n)) : OK1 E P Γ M ⟨d, .binOp .lss T x y T', ty, pos, after, gd⟩ (isB (decide (m < n))) :=
  .bin (evU hx) (evU hy) (run_cmp .lss _ _ _ _ (by simp [cmpOf]) (by simp)) (fun w F => rfl)
theorem OK1.leU (hx : Has E Γ M x (isU m)) (hy : Has E Γ M y (isU n)) : OK1 E P Γ M ⟨d, .binOp .leq T x y T', ty, pos, after, gd⟩ (isB (decide (m ≤ n))) :=
  .bin (evU hx) (evU hy) (run_cmp .leq _ _ _ _ (by simp [cmpOf]) (by simp)) (fun w F => rfl)
theorem OK1.gtU (hx : Has E Γ M x (isU m)) (hy : Has E Γ M y (isU n)) : OK1 E P Γ M ⟨d, .binOp .gtr T x y T', ty, pos, after, gd⟩ (isB (decide (n < m))) :=
  .bin (evU hx) (evU hy) (run_cmp .gtr _ _ _ _ (by simp [cmpOf]) (by simp)) (fun w F => rfl)
theorem OK1.geU (hx : Has E Γ M x (isU m)) (hy : Has E Γ M y (isU n)) : OK1 E P Γ M ⟨d, .binOp .geq T x y T', ty, pos, after, gd⟩ (isB (decide (n ≤ m))) :=
  .bin (evU hx) (evU hy) (run_cmp .geq _ _ _ _ (by simp [cmpOf]) (by simp)) (fun w F => rfl)
theorem beq_nat (m n : Nat) : ((m : Int) == (n : Int)) = decide (m = n) := by
  by_cases h : m = n
  · subst h; simp
  · have : ¬ ((m : Int) = n) := by omega
    simp [h, this]
theorem OK1.eqU (hx : Has E Γ M x (isU m)) (hy : Has E Γ M y (isU n)) : OK1 E P Γ M ⟨d, .binOp .eql T x y T', ty, pos, after, gd⟩ (isB (decide (m = n))) :=
  .bin (evU hx) (evU hy) (run_cmp .eql _ _ _ _ (by simp only [cmpOf, beq_nat]) (by simp)) (fun w F => rfl)
theorem OK1.neU (hx : Has E Γ M x (isU m)) (hy : Has E Γ M y (isU n)) : OK1 E P Γ M ⟨d, .binOp .neq T x y T', ty, pos, after, gd⟩ (isB (!decide (m = n))) :=
  .bin (evU hx) (evU hy) (run_cmp .neq _ _ _ _ (by simp only [cmpOf, bne, beq_nat]) (by simp)) (fun w F => rfl)
theorem OK1.ltI (hx : Has E Γ M x (isI i)) (hy : Has E Γ M y (isI j)) : OK1 E P Γ M ⟨d, .binOp .lss T x y T', ty, pos, after, gd⟩ (isB (decide (i < j))) :=
  .bin (evI hx) (evI hy) (run_cmp .lss _ _ _ _ rfl (by simp)) (fun w F => rfl)
theorem OK1.leI (hx : Has E Γ M x (isI i)) (hy : Has E Γ M y (isI j)) : OK1 E P Γ M ⟨d, .binOp .leq T x y T', ty, pos, after, gd⟩ (isB (decide (i ≤ j))) :=
  .bin (evI hx) (evI hy) (run_cmp .leq _ _ _ _ rfl (by simp)) (fun w F => rfl)
theorem OK1.gtI (hx : Has E Γ M x (isI i)) (hy : Has E Γ M y (isI j)) : OK1 E P Γ M ⟨d, .binOp .gtr T x y T', ty, pos, after, gd⟩ (isB (decide (j < i))) :=
  .bin (evI hx) (evI hy) (run_cmp .gtr _ _ _ _ rfl (by simp)) (fun w F => rfl)
theorem OK1.geI (hx : Has E Γ M x (isI i)) (hy : Has E Γ M y (isI j)) : OK1 E P Γ M ⟨d, .binOp .geq T x y T', ty, pos, after, gd⟩ (isB (decide (j ≤ i))) :=
  .bin (evI hx) (evI hy) (run_cmp .geq _ _ _ _ rfl (by simp)) (fun w F => rfl)
theorem OK1.eqI (hx : Has E Γ M x (isI i)) (hy : Has E Γ M y (isI j)) : OK1 E P Γ M ⟨d, .binOp .eql T x y T', ty, pos, after, gd⟩ (isB (decide (i = j))) :=
  .bin (evI hx) (evI hy) (run_cmp .eql _ _ _ _ rfl (by simp)) (fun w F => rfl)
theorem OK1.neI (hx : Has E Γ M x (isI i)) (hy : Has E Γ M y (isI j)) : OK1 E P Γ M ⟨d, .binOp .neq T x y T', ty, pos, after, gd⟩ (isB (!decide (i = j))) :=
  .bin (evI hx) (evI hy) (run_cmp .neq _ _ _ _ rfl (by simp)) (fun w F => rfl)

theorem OK1.not {b : Bool} (hx : Has E Γ M x (isB b)) : OK1 E P Γ M ⟨d, .unOp .not T x, ty, pos, after, gd⟩ (isB (!b)) :=
  .run fun a w F s => ⟨.bool (!b), by
    have h1 : a.eval x = .bool b := hx a w F s
    simp only [execOp, h1]; simp [Op.unary, go_sem], rfl⟩
theorem OK1.negI (hx : Has E Γ M x (isI i)) (h1 : -9223372036854775808 < i) (h2 : i < 9223372036854775808) : OK1 E P Γ M ⟨d, .unOp .neg T x, ty, pos, after, gd⟩ (isI (-i)) :=
  .run fun a w F s => ⟨.int .i64 (-i), by
    have h3 : a.eval x = .int .i64 i := (hx a w F s).1
    simp only [execOp, h3]
    have := wrap_i64 (z := 0 - i) (by omega) (by omega)
    rw [show (0 : Int) - i = -i by omega] at this
    simp [Op.unary, Op.intArith, go_sem, this], isI_of (by omega) (by omega) w F⟩
theorem OK1.pickAnd {c : Operand} {b e : Bool} (hc : Has E Γ M c (isB b)) (hx : b = true → Has E Γ M x (isB e)) : OK1 E P Γ M ⟨d, .pick c x (.const (.bool false)), ty, pos, after, gd⟩ (isB (b && e)) :=
  .run fun a w F s => ⟨.bool (b && e), by
    have h1 : a.eval c = .bool b := hc a w F s
    simp only [execOp, h1]
    cases hb : b with
    | true => have h2 : a.eval x = .bool e := hx hb a w F s; rw [h2]; simp [asBool, go_sem]
    | false => simp [asBool, go_sem, Act.eval], rfl⟩
theorem OK1.pickOr {c : Operand} {b e : Bool} (hc : Has E Γ M c (isB b)) (hx : b = false → Has E Γ M x (isB e)) : OK1 E P Γ M ⟨d, .pick c (.const (.bool true)) x, ty, pos, after, gd⟩ (isB (b || e)) :=
  .run fun a w F s => ⟨.bool (b || e), by
    have h1 : a.eval c = .bool b := hc a w F s
    simp only [execOp, h1]
    cases hb : b with
    | false => have h2 : a.eval x = .bool e := hx hb a w F s; rw [h2]; simp [asBool, go_sem]
    | true => simp [asBool, go_sem, Act.eval], rfl⟩
end

/-- several results -/
def isTup (Ss : List VP) : VP := ⟨fun w F v => ∃ vs, v = .tuple (List.toArray vs) ∧ All2 Ss w F vs, fun w w' F F' v h h1 h2 => by
  obtain ⟨vs, e, h⟩ := h; exact ⟨vs, e, All2.mono h1 h2 _ _ h⟩⟩
def Flat (Ss : List VP) : VP := ⟨fun w F v => ∃ vs, v = .agg (List.toArray vs) ∧ All2 Ss w F vs, fun w w' F F' v h h1 h2 => by
  obtain ⟨vs, e, h⟩ := h; exact ⟨vs, e, All2.mono h1 h2 _ _ h⟩⟩
theorem OK1.ext {x : Operand} {Ss : List VP} {S : VP} {i : Nat} (hx : Has E Γ M x (isTup Ss)) (hi : Ss[i]? = some S) : OK1 E P Γ M ⟨d, .extract x i, ty, pos, after, gd⟩ S :=
  .run fun a w F s => by
    obtain ⟨vs, e, h⟩ := hx a w F s
    obtain ⟨v, hv, hS⟩ := h.get i S hi
    exact ⟨v, by simp only [execOp, e]; simp [Instr.extract, hv, go_sem], hS⟩

inductive HasL (E : Env) (Γ : Ctx) (M : Mem) : List Operand → List VP → Prop
  | nil : HasL E Γ M [] []
  | cons {x : Operand} {S : VP} {xs : List Operand} {Ss : List VP} : Has E Γ M x S → HasL E Γ M xs Ss → HasL E Γ M (x :: xs) (S :: Ss)
theorem HasL.all {xs : List Operand} {Ss : List VP} (h : HasL E Γ M xs Ss) {a : Act} {w : World} {F : Blk} (s : Sat E Γ M a w F) : All2 Ss w F (xs.map a.eval) := by
  induction h with
  | nil => trivial
  | cons h1 _ ih => exact ⟨h1 a w F s, ih⟩

theorem run_enter {f : FuncId} (hf : Enters P f) (args : Array Value) (w : World) : (callFunc f args).run P w = .ok (.enter f args) w := by
  obtain ⟨fn, h1, h2, h3⟩ := hf
  have h3' : ¬ fn.name = "runtime.NumGoroutine" := by simpa using h3
  have h4 : ¬ fn.body = none := by intro hb; simp [hb] at h2
  simp [callFunc, go_sem, h1, h3', h4]

theorem OK1.call {f : FuncId} {xs : List Operand} {ts : Array TypeId} {Ss : List VP} {R : VP} (hf : Ctr P f Ss R) (hx : HasL E Γ M xs Ss) :
    OK1 E P Γ M ⟨d, .call ⟨.value (.func f), xs.toArray, ts⟩, ty, pos, after, gd⟩ R := by
  intro a w F s K Q hK
  unfold Oper.wp
  have hr : (execOp a.eval (⟨d, .call ⟨.value (.func f), xs.toArray, ts⟩, ty, pos, after, gd⟩ : Oper)).run P w = .ok (.enter f (xs.map a.eval).toArray) w := by
    have := run_enter hf.1 (xs.map a.eval).toArray w
    simpa [go_sem] using this
  rw [hr]
  refine (hf.2 w F _ s.flt (hx.all s)).mono ?_
  rintro e w' ⟨v, rfl, hk, hv⟩
  exact hK v w' _ ⟨hk, fun b hb => .inl hb, fun b hb => hb⟩ hv
end
end Go.En
