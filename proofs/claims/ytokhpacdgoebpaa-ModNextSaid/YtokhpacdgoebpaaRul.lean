/- Still more rules: bools compared, arrays built by value, shifts, rests of whatever kind. -/
import Derived.Test.YtokhpacdgoebpaaMor
namespace Go.En
open Go.RowKit
set_option linter.unusedVariables false
section
variable {E : Env} {P : Program} {Γ : Ctx} {M : Mem} {ty : TypeId} {pos : String} {after : Array Edge} {gd : Option (Nat × Bool)} {d : Option Tmp}
  {ops : Array Oper} {Q : Exit → Act → World → Prop} {rest : List Oper} {T T' : TypeId} {x y : Operand}

theorem run_eqB (hu : P.underlying T = some .bool) (b c : Bool) (w : World) : (Op.equal T (.bool b) (.bool c)).run P w = .ok (b == c) w := by
  have key : ∀ n, (Op.equalIn (n + 1) T (.bool b) (.bool c)).run P w = .ok (b == c) w := by
    intro n
    simp only [Op.equalIn, Sem.run_bind, run_under hu, Result.andThen_ok, Sem.run_pure]
  exact key 9999
theorem OK1.eqB {b c : Bool} {du : P.underlying T = some .bool} (_ : True = True) (hx : Has E Γ M x (isB b)) (hy : Has E Γ M y (isB c)) : OK1 E P Γ M ⟨d, .binOp .eql T x y T', ty, pos, after, gd⟩ (isB (b == c)) :=
  .run fun a w F s => ⟨_, by
    have h1 : a.eval x = .bool b := hx a w F s
    have h2 : a.eval y = .bool c := hy a w F s
    have h3 := run_eqB (P := P) du b c w
    simp only [execOp, h1, h2, eqGuard, binOp, Sem.run_bind]
    simp [h3], rfl⟩
theorem OK1.neB {b c : Bool} {du : P.underlying T = some .bool} (_ : True = True) (hx : Has E Γ M x (isB b)) (hy : Has E Γ M y (isB c)) : OK1 E P Γ M ⟨d, .binOp .neq T x y T', ty, pos, after, gd⟩ (isB (!(b == c))) :=
  .run fun a w F s => ⟨_, by
    have h1 : a.eval x = .bool b := hx a w F s
    have h2 : a.eval y = .bool c := hy a w F s
    have h3 := run_eqB (P := P) du b c w
    simp only [execOp, h1, h2, eqGuard, binOp, Sem.run_bind]
    simp [h3], rfl⟩

theorem OK1.buildA {n m : Nat} {T' : TypeId} {g : Bool} {z : Value} {ps : List (Nat × Operand)} (Z : List VP) {Z' Z'' : List VP} (ha : arrB P T = some (n, T')) (ht : tyB P T' = some (m, g)) (hz : zeroB P T = some z) (hZ : ∀ w F, All2 Z w F z.cells.toList)
    (h : Parts E Γ M (fun i => some (i * m, m)) Z ps Z') (hZ' : Z' = Z'') : OK1 E P Γ M ⟨d, .build T ps.toArray, ty, pos, after, gd⟩ (Flat Z'') :=
  .run fun a w F s => by
    obtain ⟨cells, h1, h2⟩ := h.fill s z.cells (hZ w F)
    refine ⟨.agg cells, ?_, cells.toList, by simp, hZ' ▸ h2⟩
    unfold arrB at ha
    cases hu : P.underlying T with
    | none => simp [hu] at ha
    | some dd =>
      rw [hu] at ha
      cases dd <;> simp at ha
      obtain ⟨rfl, rfl⟩ := ha
      have hmap : (ps.toArray.map fun (p : Nat × Operand) => (p.1, a.eval p.2)).toList = ps.map fun p => (p.1, a.eval p.2) := by simp
      simp only [execOp, Instr.build, Sem.run_bind, run_zero hz, run_under hu, Result.andThen_ok, run_size ht]
      rw [hmap]
      simp only [h1, Sem.run_pure, Result.andThen_ok]

theorem OK1.remKt {k : IntKind} {i j : Int} (hx : Has E Γ M x (isK k i)) (hy : Has E Γ M y (isK k j)) (h : j ≠ 0) : OK1 E P Γ M ⟨d, .binOp .rem T x y T', ty, pos, after, gd⟩ (isK k (i.tmod j)) := by
  intro a w F s
  obtain ⟨e1, r1⟩ := hx a w F s
  refine OK1.bin (S := isK k (i.tmod j)) (evK hx) (evK hy) (run_rem _ _ _ h) (fun w F => ⟨rfl, ?_⟩) a w F s
  have h5 : k.min ≤ 0 := by cases k <;> decide
  have h6 : 0 ≤ k.max := by cases k <;> decide
  have hab : (i.tmod j).natAbs ≤ i.natAbs := by rw [Int.natAbs_tmod]; exact Nat.mod_le _ _
  obtain ⟨r1, r2⟩ := r1
  rcases Int.lt_or_le i 0 with hi | hi
  · have : i.tmod j ≤ 0 := by
      have := Int.tmod_nonneg (a := -i) j (by omega)
      rw [Int.neg_tmod] at this; omega
    constructor <;> omega
  · have := Int.tmod_nonneg j hi
    constructor <;> omega

theorem run_shift (op : BinOp) (k yk : IntKind) (m n : Int) (h : op = .shl ∨ op = .shr) (w : World) : (binOp op T (.int k m) (.int yk n)).run P w = (Op.shift op k m yk n).run P w := by
  rcases h with rfl | rfl <;> rfl
theorem OK1.sh {op : BinOp} {k yk : IntKind} {m n : Int} {v : Value} {S : VP} (hop : op = .shl ∨ op = .shr)
    (hx : ∀ a w F, Sat E Γ M a w F → a.eval x = .int k m) (hy : ∀ a w F, Sat E Γ M a w F → a.eval y = .int yk n)
    (hr : ∀ w, (Op.shift op k m yk n).run P w = .ok v w) (hS : ∀ w F, S.h w F v) : OK1 E P Γ M ⟨d, .binOp op T x y T', ty, pos, after, gd⟩ S :=
  .run fun a w F s => ⟨v, by
    have h1 := hx a w F s
    have h2 := hy a w F s
    have h3 := (run_shift (P := P) (T := T) op k yk m n hop w).trans (hr w)
    have hg : (eqGuard op T x y (.int k m) (.int yk n)).run P w = .ok () w := by rcases hop with rfl | rfl <;> simp [eqGuard, go_sem]
    simp only [execOp, h1, h2, Sem.run_bind, hg, Result.andThen_ok, h3, Sem.run_pure], hS w F⟩

theorem div_pow_min (m n : Nat) (h : m < 18446744073709551616) : m / 2 ^ (min n 64) = m / 2 ^ n := by
  rcases Nat.le_total n 64 with h1 | h1
  · rw [Nat.min_eq_left h1]
  · rw [Nat.min_eq_right h1, Nat.div_eq_of_lt (by simpa using h), Nat.div_eq_of_lt (Nat.lt_of_lt_of_le h (Nat.pow_le_pow_right (n := 2) (by decide) h1))]
theorem run_shr {m : Nat} {yk : IntKind} {n : Nat} (hm : m < 18446744073709551616) (w : World) : (Op.shift .shr .u64 (m : Int) yk (n : Int)).run P w = .ok (.int .u64 ((m / 2 ^ n : Nat) : Int)) w := by
  unfold Op.shift
  rw [if_neg (by omega)]
  have e : Int.fdiv (m : Int) (2 ^ (min n 64)) = ((m / 2 ^ n : Nat) : Int) := by
    rw [Int.fdiv_eq_ediv_of_nonneg _ (Int.le_of_lt (Int.pow_pos (by omega))), ← div_pow_min m n hm]
    norm_cast
  have hb : IntKind.u64.bits = 64 := rfl
  simp only [Int.toNat_natCast, hb]
  rw [e]; rfl
theorem run_shl {m : Nat} {yk : IntKind} {n : Nat} (w : World) : (Op.shift .shl .u64 (m : Int) yk (n : Int)).run P w = .ok (.int .u64 ((m * 2 ^ n % 18446744073709551616 : Nat) : Int)) w := by
  unfold Op.shift
  rw [if_neg (by omega)]
  have e : IntKind.u64.wrap ((m : Int) * 2 ^ (min n 64)) = ((m * 2 ^ n % 18446744073709551616 : Nat) : Int) := by
    rw [wrap_u64]
    have : m * 2 ^ (min n 64) % 18446744073709551616 = m * 2 ^ n % 18446744073709551616 := by
      rcases Nat.le_total n 64 with h1 | h1
      · rw [Nat.min_eq_left h1]
      · rw [Nat.min_eq_right h1]
        have e2 : 2 ^ n = 2 ^ 64 * 2 ^ (n - 64) := by rw [← Nat.pow_add]; congr 1; omega
        have e3 : (2 : Nat) ^ 64 = 18446744073709551616 := rfl
        rw [e2, e3, Nat.mul_mod_left, Nat.mul_left_comm, Nat.mul_mod_right]
    rw [← this, Int.natCast_emod, Int.natCast_mul, Int.natCast_pow]; rfl
  have hb : IntKind.u64.bits = 64 := rfl
  simp only [Int.toNat_natCast, hb]
  rw [e]; rfl
variable {m n : Nat} {i : Int}
theorem OK1.shrUU (hx : Has E Γ M x (isU m)) (hy : Has E Γ M y (isU n)) (h : m < 18446744073709551616) : OK1 E P Γ M ⟨d, .binOp .shr T x y T', ty, pos, after, gd⟩ (isU (m / 2 ^ n)) :=
  .sh (.inr rfl) (evU hx) (evU hy) (run_shr h) (fun w F => isU_of rfl (Nat.lt_of_le_of_lt (Nat.div_le_self _ _) h) w F)
theorem OK1.shlUU (hx : Has E Γ M x (isU m)) (hy : Has E Γ M y (isU n)) (_h : True) : OK1 E P Γ M ⟨d, .binOp .shl T x y T', ty, pos, after, gd⟩ (isU (m * 2 ^ n % 18446744073709551616)) :=
  .sh (.inl rfl) (evU hx) (evU hy) run_shl (fun w F => isU_of rfl (Nat.mod_lt _ (by decide)) w F)
theorem OK1.shrUI (hx : Has E Γ M x (isU m)) (hy : Has E Γ M y (isI i)) (h : m < 18446744073709551616 ∧ 0 ≤ i) : OK1 E P Γ M ⟨d, .binOp .shr T x y T', ty, pos, after, gd⟩ (isU (m / 2 ^ i.toNat)) :=
  .sh (.inr rfl) (evU hx) (evI hy) (fun w => by have := run_shr (P := P) (yk := .i64) (n := i.toNat) h.1 w; rwa [Int.toNat_of_nonneg h.2] at this) (fun w F => isU_of rfl (Nat.lt_of_le_of_lt (Nat.div_le_self _ _) h.1) w F)
theorem OK1.shlUI (hx : Has E Γ M x (isU m)) (hy : Has E Γ M y (isI i)) (h : 0 ≤ i) : OK1 E P Γ M ⟨d, .binOp .shl T x y T', ty, pos, after, gd⟩ (isU (m * 2 ^ i.toNat % 18446744073709551616)) :=
  .sh (.inl rfl) (evU hx) (evI hy) (fun w => by have := run_shl (P := P) (m := m) (yk := .i64) (n := i.toNat) w; rwa [Int.toNat_of_nonneg h] at this) (fun w F => isU_of rfl (Nat.mod_lt _ (by decide)) w F)

theorem OK1.convIUw {S T : TypeId} {ds : TypeDesc} (hs : P.underlying S = some ds) (ht : P.underlying T = some (.int .u64)) (hx : Has E Γ M x (isI i)) : OK1 E P Γ M ⟨d, .convert S T x, ty, pos, after, gd⟩ (isU (i % 18446744073709551616).toNat) :=
  .conv hs ht (evI hx) (fun w F => isU_of (by rw [wrap_u64]; omega) (by omega) w F)
theorem OK1.negU (hx : Has E Γ M x (isU m)) (h : m < 18446744073709551616) : OK1 E P Γ M ⟨d, .unOp .neg T x, ty, pos, after, gd⟩ (isU ((18446744073709551616 - m) % 18446744073709551616)) :=
  .run fun a w F s => ⟨.int .u64 (IntKind.u64.wrap (0 - (m : Int))), by
    have h3 : a.eval x = .int .u64 m := (hx a w F s).1
    simp only [execOp, h3]
    simp [Op.unary, Op.intArith, go_sem], isU_of (by rw [wrap_u64]; omega) (by omega) w F⟩

/-- an element's place in an array variable of the call's own -/
theorem OK1.ixVar {b off n m : Nat} {k : IntKind} {z : Int} {E' : TypeId} {g : Bool} (ha : arrB P T = some (n, E')) (ht : tyB P E' = some (m, g)) (hx : Has E Γ M x (isPtr b off)) (hy : ∀ a w F, Sat E Γ M a w F → a.eval y = .int k z)
    (h0 : 0 ≤ z) (h1 : z < n) : OK1 E P Γ M ⟨d, .indexAddr T x y, ty, pos, after, gd⟩ (isPtr b (off + z.toNat * m)) :=
  .run fun a w F s => by
    have e1 : a.eval x = .pointer (some ⟨b, off, none⟩) := hx a w F s
    have e2 := hy a w F s
    refine ⟨_, ?_, rfl⟩
    unfold arrB at ha
    cases hu : P.underlying T with
    | none => simp [hu] at ha
    | some dd =>
      rw [hu] at ha
      cases dd <;> simp at ha
      obtain ⟨rfl, rfl⟩ := ha
      simp only [execOp, e1, e2, Instr.indexAt, asIntOf, Sem.run_bind, Sem.run_pure, run_under hu, Result.andThen_ok, Instr.sureAddr]
      rw [if_pos ⟨h0, h1⟩]
      simp only [Sem.run_bind, run_size ht, Result.andThen_ok, Sem.run_pure, add_mk]
end
end Go.En
