/- Rules and contracts, part 5 of 6. -/
import Derived.Test.YtkgipdidomikbaaGreatQZcharFields4
/- Contracts: products of any size. -/
namespace Go.Proofs.YtkgipdidomikbaaGreat
open Go.En Go.RowKit
set_option linter.unusedVariables false
set_option maxRecDepth 10000
open Go.Nt
/-- words put up by a number of words -/
def upW (n : Nat) (xs : List Nat) : List Nat := if xs.length = 0 then [] else List.replicate n 0 ++ xs
theorem upW_nil {n : Nat} {xs : List Nat} (h : xs.length = 0) : [] = upW n xs := by unfold upW; rw [if_pos h]
theorem upW_app {n : Nat} {xs : List Nat} (h : xs.length ≠ 0) : List.replicate n 0 ++ xs = upW n xs := by unfold upW; rw [if_neg h]
theorem upW_val (n : Nat) (xs : List Nat) : val (upW n xs) = W ^ n * val xs := by
  unfold upW
  split
  · rename_i h; rw [List.eq_nil_of_length_eq_zero h]; rfl
  · rw [val_append, val_replicate, List.length_replicate, Nat.zero_add]
theorem upW_nw {n : Nat} {xs : List Nat} (h : Ok xs) : (List.length (words (val (upW n xs)))) ≤ n + xs.length := by
  rw [upW_val]
  refine nw_le ?_
  rw [Nat.pow_add]
  exact Nat.mul_lt_mul_of_pos_left (val_lt h) (pow_pos' n)
theorem ok_take {xs : List Nat} (h : Ok xs) (n : Nat) : Ok (xs.take n) := fun x hx => h x (List.mem_of_mem_take hx)
theorem ok_drop {xs : List Nat} (h : Ok xs) (n : Nat) : Ok (xs.drop n) := fun x hx => h x (List.mem_of_mem_drop hx)
theorem lowW_nw (a n : Nat) : (List.length (words (val ((words a).take n)))) ≤ min n ((List.length (words a))) := by
  have := nw_val (ok_take (words_ok a) n)
  rwa [List.length_take] at this
theorem highW_nw (a n : Nat) : (List.length (words (val ((words a).drop n)))) ≤ (List.length (words a)) - n := by
  have := nw_val (ok_drop (words_ok a) n)
  rwa [List.length_drop] at this
theorem halves (a n : Nat) : val ((words a).take n) + W ^ n * val ((words a).drop n) = a := by
  rcases Nat.lt_or_ge n (words a).length with h | h
  · have e := val_append ((words a).take n) ((words a).drop n)
    rw [List.take_append_drop, val_words, List.length_take, Nat.min_eq_left (Nat.le_of_lt h)] at e
    exact e.symm
  · rw [List.take_of_length_le h, List.drop_eq_nil_of_le h, val_words]; exact Nat.add_zero _
theorem kara (p q r s n : Nat) : p * r + W ^ n * ((p + q) * (r + s) - p * r - q * s) + W ^ (2 * n) * (q * s) = (p + W ^ n * q) * (r + W ^ n * s) := by
  have e : (p + q) * (r + s) - p * r - q * s = p * s + q * r := by
    rw [Nat.add_mul, Nat.mul_add, Nat.mul_add]; omega
  rw [e, Nat.two_mul, Nat.pow_add]
  generalize W ^ n = w
  simp only [Nat.add_mul, Nat.mul_add, Nat.mul_assoc, Nat.mul_left_comm, Nat.mul_comm, Nat.add_assoc, Nat.add_left_comm, Nat.add_comm]
set_option maxHeartbeats 4000000 in
theorem mul_low {xs : List Nat} {n : Nat} : Ctr Tryz.prog 103 [isWords xs, isI (n : Int)] (isWords (xs.take n)) := by
  refine Ctr.intro Tryz.func103 rfl (by kernel_rfl) Tryz.ntmps103 rfl fun w0 F0 => ?_
  refine Tri.cv (Cv.wk (.cons (t := 0) (Has.t rfl) (.cons (t := 1) (Has.t rfl) .nil))) ?_
  refine Tri.fact (Has.lenLt (Has.t (t := 0) rfl)) fun lt0 => ?_
  refine Tri.fact (Has.okW (Has.t (t := 0) rfl)) fun ok0 => ?_
  refine Tri.fact (Has.rngI (Has.t (t := 1) rfl)) fun lt1 => ?_
  refine Tri.seq fun K1 hK1 => ?_
  refine Tri.region ?_
  refine st (OK1.as (Has.cW (f := isU))) rfl ?_
  refine nl ?_
  refine At.thn (hK1 _ _ ?_); clear hK1
  refine Tri.seq fun K2 hK2 => ?_
  refine Tri.seq fun K3 hK3 => ?_
  refine Tri.region ?_
  refine st (OK1.mv (Has.t rfl)) rfl ?_
  refine st (OK1.len sl59 (Has.t rfl)) rfl ?_
  refine st (OK1.mv (Has.t rfl)) rfl ?_
  refine st (OK1.leI (Has.t rfl) (Has.t rfl)) rfl ?_
  refine nl ?_
  refine At.thn (hK3 _ _ ?_); clear hK3
  refine Tri.cond (Has.t rfl) (fun hc1 => ?_) (fun hc1 => ?_)
  · have hc1 := BP.t hc1
    refine Tri.seq fun K4 hK4 => ?_
    refine Tri.region ?_
    refine st (OK1.mv (Has.t rfl)) rfl ?_
    refine st (OK1.as (Has.t rfl)) rfl ?_
    refine nl ?_
    refine At.thn (hK4 _ _ ?_); clear hK4
    refine Tri.cv (Cv.wk (.cons (t := 0) (Has.t rfl) (.cons (t := 1) (Has.t rfl) (.cons (t := 4) (Has.t rfl) .nil)))) ?_
    refine Tri.ret ?_
    refine At.thr ?_
    refine rt1 (.inl rfl) Tryz.results103 rfl (.tmp (Has.t' rfl ?_) .nil)
    all_goals (exact SlM_eq (List.take_of_length_le (by omega)).symm)
  · have hc1 := BP.f hc1
    refine Tri.skip ?_
    refine At.thn (hK2 _ _ ?_); clear hK2
    refine Tri.seq fun K5 hK5 => ?_
    refine Tri.region ?_
    refine st (OK1.mv (Has.t rfl)) rfl ?_
    refine st (OK1.mv (Has.t rfl)) rfl ?_
    refine st (OK1.slHM sl59 ty28 (Has.t rfl) (Has.t rfl) ⟨by omega, by omega⟩) rfl ?_
    refine st (OK1.as (Has.t rfl)) rfl ?_
    refine nl ?_
    refine At.thn (hK5 _ _ ?_); clear hK5
    refine Tri.cv (Cv.wk (.cons (t := 4) (Has.t rfl) .nil)) ?_
    refine Tri.ret ?_
    refine rt1 (.inl rfl) Tryz.results103 rfl (.tmp (Has.t' rfl ?_) .nil)
    all_goals (exact SlM_eq (by rw [Int.toNat_natCast]))
set_option maxHeartbeats 4000000 in
theorem mul_high {xs : List Nat} {n : Nat} : Ctr Tryz.prog 104 [isWords xs, isI (n : Int)] (isWords (xs.drop n)) := by
  refine Ctr.intro Tryz.func104 rfl (by kernel_rfl) Tryz.ntmps104 rfl fun w0 F0 => ?_
  refine Tri.cv (Cv.wk (.cons (t := 0) (Has.t rfl) (.cons (t := 1) (Has.t rfl) .nil))) ?_
  refine Tri.fact (Has.lenLt (Has.t (t := 0) rfl)) fun lt0 => ?_
  refine Tri.fact (Has.okW (Has.t (t := 0) rfl)) fun ok0 => ?_
  refine Tri.fact (Has.rngI (Has.t (t := 1) rfl)) fun lt1 => ?_
  refine Tri.seq fun K1 hK1 => ?_
  refine Tri.region ?_
  refine st (OK1.as (Has.cW (f := isU))) rfl ?_
  refine nl ?_
  refine At.thn (hK1 _ _ ?_); clear hK1
  refine Tri.seq fun K2 hK2 => ?_
  refine Tri.seq fun K3 hK3 => ?_
  refine Tri.region ?_
  refine st (OK1.mv (Has.t rfl)) rfl ?_
  refine st (OK1.len sl59 (Has.t rfl)) rfl ?_
  refine st (OK1.mv (Has.t rfl)) rfl ?_
  refine st (OK1.leI (Has.t rfl) (Has.t rfl)) rfl ?_
  refine nl ?_
  refine At.thn (hK3 _ _ ?_); clear hK3
  refine Tri.cond (Has.t rfl) (fun hc1 => ?_) (fun hc1 => ?_)
  · have hc1 := BP.t hc1
    refine Tri.seq fun K4 hK4 => ?_
    refine Tri.region ?_
    refine st (OK1.as (Has.cW (f := isU))) rfl ?_
    refine nl ?_
    refine At.thn (hK4 _ _ ?_); clear hK4
    refine Tri.ret ?_
    refine At.thr ?_
    refine rt1 (.inl rfl) Tryz.results104 rfl (.tmp (Has.t' rfl ?_) .nil)
    all_goals (exact SlM_eq (List.drop_eq_nil_of_le (by omega)).symm)
  · have hc1 := BP.f hc1
    refine Tri.skip ?_
    refine At.thn (hK2 _ _ ?_); clear hK2
    refine Tri.seq fun K5 hK5 => ?_
    refine Tri.region ?_
    refine st (OK1.mv (Has.t rfl)) rfl ?_
    refine st (OK1.mv (Has.t rfl)) rfl ?_
    refine st (OK1.slLM sl59 ty28 (Has.t rfl) (Has.t rfl) ⟨by omega, by omega⟩) rfl ?_
    refine st (OK1.as (Has.t rfl)) rfl ?_
    refine nl ?_
    refine At.thn (hK5 _ _ ?_); clear hK5
    refine Tri.cv (Cv.wk (.cons (t := 4) (Has.t rfl) .nil)) ?_
    refine Tri.ret ?_
    refine rt1 (.inl rfl) Tryz.results104 rfl (.tmp (Has.t' rfl ?_) .nil)
    all_goals (exact SlM_eq (by rw [Int.toNat_natCast]))
set_option maxHeartbeats 4000000 in
theorem mul_less {xs ys : List Nat} (hx : (List.length (words (val xs))) < 4294967296) : Ctr Tryz.prog 105 [isWords xs, isWords ys] (isWords (words (val xs - val ys))) := by
  refine Ctr.intro Tryz.func105 rfl (by kernel_rfl) Tryz.ntmps105 rfl fun w0 F0 => ?_
  refine Tri.cv (Cv.wk (.cons (t := 0) (Has.t rfl) (.cons (t := 1) (Has.t rfl) .nil))) ?_
  refine Tri.fact (Has.lenLt (Has.t (t := 0) rfl)) fun lt0 => ?_
  refine Tri.fact (Has.okW (Has.t (t := 0) rfl)) fun ok0 => ?_
  refine Tri.fact (Has.lenLt (Has.t (t := 1) rfl)) fun lt1 => ?_
  refine Tri.fact (Has.okW (Has.t (t := 1) rfl)) fun ok1 => ?_
  refine Tri.seq fun K1 hK1 => ?_
  refine Tri.region ?_
  refine st (OK1.as (Has.cW (f := isU))) rfl ?_
  refine nl ?_
  refine At.thn (hK1 _ _ ?_); clear hK1
  refine Tri.seq fun K2 hK2 => ?_
  refine Tri.region ?_
  refine st (OK1.mv (Has.t rfl)) rfl ?_
  refine st (OK1.mv (Has.t rfl)) rfl ?_
  refine st (OK1.call (nat_Sub (by with_reducible assumption)) (.cons (Has.t rfl) (.cons (Has.t rfl) .nil))) rfl ?_
  refine st (OK1.mv (Has.t rfl)) rfl ?_
  refine st (OK1.ext (Has.t rfl) rfl) rfl ?_
  refine st (OK1.ext (Has.t rfl) rfl) rfl ?_
  refine st (OK1.as (Has.t rfl)) rfl ?_
  refine st (OK1.as (Has.t rfl)) rfl ?_
  refine nl ?_
  refine At.thn (hK2 _ _ ?_); clear hK2
  refine Tri.cv (Cv.wk (.cons (t := 4) (Has.t rfl) (.cons (t := 5) (Has.t rfl) .nil))) ?_
  refine Tri.seq fun K3 hK3 => ?_
  refine Tri.region ?_
  refine st (OK1.mv (Has.t rfl)) rfl ?_
  refine st (OK1.as (Has.t rfl)) rfl ?_
  refine nl ?_
  refine At.thn (hK3 _ _ ?_); clear hK3
  refine Tri.ret ?_
  refine rt1 (.inl rfl) Tryz.results105 rfl (.tmp (Has.t' rfl ?_) .nil)
  all_goals (rfl)
set_option maxHeartbeats 4000000 in
theorem mul_up {xs : List Nat} {n : Nat} (hn : n + xs.length ≤ 4294967296) : Ctr Tryz.prog 114 [isWords xs, isI (n : Int)] (isWords (upW n xs)) := by
  refine Ctr.intro Tryz.func114 rfl (by kernel_rfl) Tryz.ntmps114 rfl fun w0 F0 => ?_
  refine Tri.cv (Cv.wk (.cons (t := 0) (Has.t rfl) (.cons (t := 1) (Has.t rfl) .nil))) ?_
  refine Tri.fact (Has.lenLt (Has.t (t := 0) rfl)) fun lt0 => ?_
  refine Tri.fact (Has.okW (Has.t (t := 0) rfl)) fun ok0 => ?_
  refine Tri.fact (Has.rngI (Has.t (t := 1) rfl)) fun lt1 => ?_
  refine Tri.seq fun K1 hK1 => ?_
  refine Tri.region ?_
  refine st (OK1.as (Has.cW (f := isU))) rfl ?_
  refine nl ?_
  refine At.thn (hK1 _ _ ?_); clear hK1
  refine Tri.seq fun K2 hK2 => ?_
  refine Tri.seq fun K3 hK3 => ?_
  refine Tri.region ?_
  refine st (OK1.mv (Has.t rfl)) rfl ?_
  refine st (OK1.len sl59 (Has.t rfl)) rfl ?_
  refine st (OK1.eqI (Has.t rfl) (Has.cI 0 rfl)) rfl ?_
  refine nl ?_
  refine At.thn (hK3 _ _ ?_); clear hK3
  refine Tri.cond (Has.t rfl) (fun hc1 => ?_) (fun hc1 => ?_)
  · have hc1 := BP.t hc1
    refine Tri.seq fun K4 hK4 => ?_
    refine Tri.region ?_
    refine st (OK1.as (Has.cW (f := isU))) rfl ?_
    refine nl ?_
    refine At.thn (hK4 _ _ ?_); clear hK4
    refine Tri.ret ?_
    refine At.thr ?_
    refine rt1 (.inl rfl) Tryz.results114 rfl (.tmp (Has.t' rfl ?_) .nil)
    all_goals (exact SlM_eq (upW_nil (by omega)))
  · have hc1 := BP.f hc1
    refine Tri.skip ?_
    refine At.thn (hK2 _ _ ?_); clear hK2
    refine Tri.seq fun K5 hK5 => ?_
    refine Tri.region ?_
    refine st (OK1.mv (Has.t rfl)) rfl ?_
    refine st (OK1.mv (Has.t rfl)) rfl ?_
    refine st (OK1.mv (Has.t rfl)) rfl ?_
    refine st (OK1.len sl59 (Has.t rfl)) rfl ?_
    refine st (OK1.eq (OK1.addI (Has.t rfl) (Has.t rfl) (by omega) (by omega)) ((show isI _ = isI ((n + xs.length : Nat) : Int) from isI_eq (by omega)))) rfl ?_
    refine Ops.make (f := isU) (u := 0) (n := n) (c := n + xs.length) sl59 ty28 zero28 (fun _ _ => ⟨⟨rfl, by decide⟩, trivial⟩) by28 (Has.t' rfl rfl) (Has.t' rfl rfl) ⟨by omega, by omega⟩ rfl fun b1 => ?_
    refine st (OK1.mv (Has.t rfl)) rfl ?_
    refine Ops.cv (Cv.winGrM (f := isU) (t := 13) (i := 0) (ys := List.replicate n 0) rfl rfl (by simp) (by simp) (by simp)) ?_
    refine Ops.memEq (M' := [grM _ _ _]) rfl ?_
    refine Ops.appendG (f := isU) (u := 0) sl59 ty28 zero28 (fun _ _ => ⟨⟨rfl, by decide⟩, trivial⟩) (fun _ => inferInstance) by28 (Has.t rfl) (i := 0) rfl (Has.t rfl) (by rw [List.length_replicate]; exact hn) (by omega) rfl fun gr1 => ?_
    refine Ops.memEq (M' := [grM _ _ _]) rfl ?_
    refine Ops.cv (Cv.freezeGn (t := 15) (i := 0) (ys := List.replicate n 0 ++ xs) rfl rfl rfl (by simp)) ?_
    refine Ops.memEq (M' := []) rfl ?_
    refine Ops.cv (Cv.wk (.cons (t := 0) (Has.t rfl) (.cons (t := 1) (Has.t rfl) (.cons (t := 4) (Has.t rfl) (.cons (t := 5) (Has.t rfl) (.cons (t := 6) (Has.t rfl) (.cons (t := 7) (Has.t rfl) (.cons (t := 8) (Has.t rfl) (.cons (t := 9) (Has.t rfl) (.cons (t := 10) (Has.t rfl) (.cons (t := 11) (Has.t rfl) (.cons (t := 12) (Has.t rfl) (.cons (t := 14) (Has.t rfl) (.cons (t := 15) (Has.t rfl) .nil)))))))))))))) ?_
    refine st (OK1.as (Has.t rfl)) rfl ?_
    refine nl ?_
    refine At.thn (hK5 _ _ ?_); clear hK5
    refine Tri.cv (Cv.wk (.cons (t := 4) (Has.t rfl) .nil)) ?_
    refine Tri.ret ?_
    refine rt1 (.inl rfl) Tryz.results114 rfl (.tmp (Has.t' rfl ?_) .nil)
    all_goals (exact SlM_eq (upW_app (by omega)))
set_option maxHeartbeats 4000000 in
theorem mul_joined {xs ys zs : List Nat} {n : Nat} (hx : (List.length (words (val xs))) ≤ 2100000000) (hn : n ≤ 1000000000) (hy : ys.length ≤ 2000000000) (hz : zs.length ≤ 2000000000) : Ctr Tryz.prog 106 [isWords xs, isWords ys, isWords zs, isI (n : Int)] (isWords (words (val xs + W ^ n * val ys + W ^ (2 * n) * val zs))) := by
  refine Ctr.intro Tryz.func106 rfl (by kernel_rfl) Tryz.ntmps106 rfl fun w0 F0 => ?_
  refine Tri.cv (Cv.wk (.cons (t := 0) (Has.t rfl) (.cons (t := 1) (Has.t rfl) (.cons (t := 2) (Has.t rfl) (.cons (t := 3) (Has.t rfl) .nil))))) ?_
  refine Tri.fact (Has.lenLt (Has.t (t := 0) rfl)) fun lt0 => ?_
  refine Tri.fact (Has.okW (Has.t (t := 0) rfl)) fun ok0 => ?_
  refine Tri.fact (Has.lenLt (Has.t (t := 1) rfl)) fun lt1 => ?_
  refine Tri.fact (Has.okW (Has.t (t := 1) rfl)) fun ok1 => ?_
  refine Tri.fact (Has.lenLt (Has.t (t := 2) rfl)) fun lt2 => ?_
  refine Tri.fact (Has.okW (Has.t (t := 2) rfl)) fun ok2 => ?_
  refine Tri.fact (Has.rngI (Has.t (t := 3) rfl)) fun lt3 => ?_
  have u1 := upW_nw (n := n) ok1
  have u2 := upW_nw (n := 2 * n) ok2
  have h1 := nw_add_le (val xs) (val (upW n ys))
  refine Tri.seq fun K1 hK1 => ?_
  refine Tri.region ?_
  refine st (OK1.as (Has.cW (f := isU))) rfl ?_
  refine nl ?_
  refine At.thn (hK1 _ _ ?_); clear hK1
  refine Tri.seq fun K2 hK2 => ?_
  refine Tri.region ?_
  refine st (OK1.as (Has.fn (ι := { p : List Nat × Nat // p.2 + p.1.length ≤ 4294967296 }) (As := fun p => [isWords p.1.1, isI (p.1.2 : Int)]) (R := fun p => isWords (upW p.1.2 p.1.1)) (fun p => mul_up p.2))) rfl ?_
  refine nl ?_
  refine At.thn (hK2 _ _ ?_); clear hK2
  refine Tri.seq fun K3 hK3 => ?_
  refine Tri.region ?_
  refine st (OK1.mv (Has.t rfl)) rfl ?_
  refine st (OK1.mv (Has.t rfl)) rfl ?_
  refine st (OK1.mv (Has.t rfl)) rfl ?_
  refine st (OK1.mv (Has.t rfl)) rfl ?_
  refine st (OK1.callV ⟨(ys, n), by show n + ys.length ≤ _; omega⟩ (Has.t rfl) (.cons (Has.t rfl) (.cons (Has.t rfl) .nil))) rfl ?_
  refine st (OK1.call (nat_Add (by omega) (by simp only [val_words]; omega)) (.cons (Has.t rfl) (.cons (Has.t rfl) .nil))) rfl ?_
  refine st (OK1.mv (Has.t rfl)) rfl ?_
  refine st (OK1.mv (Has.t rfl)) rfl ?_
  refine st (OK1.mv (Has.t rfl)) rfl ?_
  refine st (OK1.eq (OK1.mulI (Has.cI 2 rfl) (Has.t rfl) (by omega) (by omega)) ((show isI _ = isI ((2 * n : Nat) : Int) from isI_eq (by omega)))) rfl ?_
  refine st (OK1.callV ⟨(zs, 2 * n), by show 2 * n + zs.length ≤ _; omega⟩ (Has.t rfl) (.cons (Has.t rfl) (.cons (Has.t rfl) .nil))) rfl ?_
  refine st (OK1.call (nat_Add (by simp only [val_words]; omega) (by simp only [val_words]; omega)) (.cons (Has.t rfl) (.cons (Has.t rfl) .nil))) rfl ?_
  refine st (OK1.as (Has.t rfl)) rfl ?_
  refine nl ?_
  refine At.thn (hK3 _ _ ?_); clear hK3
  refine Tri.cv (Cv.wk (.cons (t := 8) (Has.t rfl) .nil)) ?_
  refine Tri.ret ?_
  refine rt1 (.inl rfl) Tryz.results106 rfl (.tmp (Has.t' rfl ?_) .nil)
  all_goals (exact SlM_eq (by rw [val_words, upW_val, upW_val]))
set_option maxHeartbeats 4000000 in
theorem mul_MulStep {xs ys : List Nat} (hx : (List.length (words (val xs))) ≤ 1000000000) (hy : (List.length (words (val ys))) ≤ 1000000000) (IH : ∀ us vs : List Nat, max ((List.length (words (val us)))) ((List.length (words (val vs)))) < max ((List.length (words (val xs)))) ((List.length (words (val ys)))) → (List.length (words (val us))) ≤ 1000000000 → (List.length (words (val vs))) ≤ 1000000000 → Ctr Tryz.prog 89 [isWords us, isWords vs] (isWords (words (val us * val vs)))) : Ctr Tryz.prog 89 [isWords xs, isWords ys] (isWords (words (val xs * val ys))) := by
  refine Ctr.intro Tryz.func89 rfl (by kernel_rfl) Tryz.ntmps89 rfl fun w0 F0 => ?_
  refine Tri.cv (Cv.wk (.cons (t := 0) (Has.t rfl) (.cons (t := 1) (Has.t rfl) .nil))) ?_
  refine Tri.fact (Has.lenLt (Has.t (t := 0) rfl)) fun lt0 => ?_
  refine Tri.fact (Has.okW (Has.t (t := 0) rfl)) fun ok0 => ?_
  refine Tri.fact (Has.lenLt (Has.t (t := 1) rfl)) fun lt1 => ?_
  refine Tri.fact (Has.okW (Has.t (t := 1) rfl)) fun ok1 => ?_
  obtain ⟨N, hN⟩ : ∃ N, N = (max ((List.length (words (val xs)))) ((List.length (words (val ys)))) + 1) / 2 := ⟨_, rfl⟩
  have kp := lowW_nw (val xs) N
  have kq := highW_nw (val xs) N
  have kr := lowW_nw (val ys) N
  have ks := highW_nw (val ys) N
  have ka := nw_add_le (val ((words (val xs)).take N)) (val ((words (val xs)).drop N))
  have kb := nw_add_le (val ((words (val ys)).take N)) (val ((words (val ys)).drop N))
  have ea := halves (val xs) N
  have eb := halves (val ys) N
  obtain ⟨p, hp⟩ : ∃ p, p = (words (val xs)).take N := ⟨_, rfl⟩
  obtain ⟨q, hq⟩ : ∃ q, q = (words (val xs)).drop N := ⟨_, rfl⟩
  obtain ⟨r, hr⟩ : ∃ r, r = (words (val ys)).take N := ⟨_, rfl⟩
  obtain ⟨s, hs⟩ : ∃ s, s = (words (val ys)).drop N := ⟨_, rfl⟩
  rw [← hp] at kp ka ea
  rw [← hq] at kq ka ea
  rw [← hr] at kr kb eb
  rw [← hs] at ks kb eb
  have kpr := nw_mul_le (val p) (val r)
  have kqs := nw_mul_le (val q) (val s)
  have kc := nw_mul_le (val p + val q) (val r + val s)
  have kc2 := nw_mono (Nat.sub_le ((val p + val q) * (val r + val s)) (val p * val r))
  have kc3 := nw_mono (Nat.sub_le ((val p + val q) * (val r + val s) - val p * val r) (val q * val s))
  refine Tri.seq fun K1 hK1 => ?_
  refine Tri.region ?_
  refine st (OK1.as (Has.cW (f := isU))) rfl ?_
  refine nl ?_
  refine At.thn (hK1 _ _ ?_); clear hK1
  refine Tri.seq fun K2 hK2 => ?_
  refine Tri.region ?_
  refine st (OK1.mv (Has.t rfl)) rfl ?_
  refine st (OK1.eq (OK1.call (nat_Norm (by omega)) (.cons (Has.t rfl) .nil)) (by rfl)) rfl ?_
  refine st (OK1.mv (Has.t rfl)) rfl ?_
  refine st (OK1.eq (OK1.call (nat_Norm (by omega)) (.cons (Has.t rfl) .nil)) (by rfl)) rfl ?_
  refine st (OK1.as (Has.t rfl)) rfl ?_
  refine st (OK1.as (Has.t rfl)) rfl ?_
  refine nl ?_
  refine At.thn (hK2 _ _ ?_); clear hK2
  refine Tri.seq fun K3 hK3 => ?_
  refine Tri.seq fun K4 hK4 => ?_
  refine Tri.region ?_
  refine st (OK1.mv (Has.t rfl)) rfl ?_
  refine st (OK1.len sl59 (Has.t rfl)) rfl ?_
  refine st (OK1.mv (Has.t rfl)) rfl ?_
  refine st (OK1.len sl59 (Has.t rfl)) rfl ?_
  refine st (OK1.minI (Has.t rfl) (Has.t rfl)) rfl ?_
  refine st (OK1.leI (Has.t rfl) (Has.cI 8 rfl)) rfl ?_
  refine nl ?_
  refine At.thn (hK4 _ _ ?_); clear hK4
  refine Tri.cv (Cv.wk (.cons (t := 0) (Has.t rfl) (.cons (t := 1) (Has.t rfl) (.cons (t := 4) (Has.t rfl) (.cons (t := 22) (Has.t rfl) .nil))))) ?_
  refine Tri.cond (Has.t rfl) (fun hc1 => ?_) (fun hc1 => ?_)
  · have hc1 := BP.t hc1
    have HM : (List.length (words (val xs))) ≤ 8 ∨ (List.length (words (val ys))) ≤ 8 := (by revert hc1; split <;> intro hc1 <;> omega)
    refine Tri.seq fun K5 hK5 => ?_
    refine Tri.region ?_
    refine st (OK1.mv (Has.t rfl)) rfl ?_
    refine st (OK1.mv (Has.t rfl)) rfl ?_
    refine st (OK1.eq (OK1.call (nat_Mul (by simp only [val_words]; omega)) (.cons (Has.t rfl) (.cons (Has.t rfl) .nil))) (by simp only [val_words]; rfl)) rfl ?_
    refine st (OK1.as (Has.t rfl)) rfl ?_
    refine nl ?_
    refine At.thn (hK5 _ _ ?_); clear hK5
    refine Tri.ret ?_
    refine At.thr ?_
    refine rt1 (.inl rfl) Tryz.results89 rfl (.tmp (Has.t' rfl ?_) .nil)
    all_goals (rfl)
  · have hc1 := BP.f hc1
    have HM : 8 < (List.length (words (val xs))) ∧ 8 < (List.length (words (val ys))) := (by revert hc1; split <;> intro hc1 <;> omega)
    refine Tri.skip ?_
    refine At.thn (hK3 _ _ ?_); clear hK3
    refine Tri.seq fun K6 hK6 => ?_
    refine Tri.region ?_
    refine st (OK1.mv (Has.t rfl)) rfl ?_
    refine st (OK1.len sl59 (Has.t rfl)) rfl ?_
    refine st (OK1.mv (Has.t rfl)) rfl ?_
    refine st (OK1.len sl59 (Has.t rfl)) rfl ?_
    refine st (OK1.maxI (Has.t rfl) (Has.t rfl)) rfl ?_
    refine st (OK1.addI (Has.t rfl) (Has.cI 1 rfl) (by omega) (by omega)) rfl ?_
    refine st (OK1.eq (OK1.quoI (Has.t rfl) (Has.cI 2 rfl) (by omega) (by omega) (by omega)) ((show isI _ = isI (N : Int) from isI_eq (by rw [hN]; split <;> omega)))) rfl ?_
    refine st (OK1.as (Has.t rfl)) rfl ?_
    refine nl ?_
    refine At.thn (hK6 _ _ ?_); clear hK6
    refine Tri.cv (Cv.wk (.cons (t := 0) (Has.t rfl) (.cons (t := 1) (Has.t rfl) (.cons (t := 4) (Has.t rfl) (.cons (t := 5) (Has.t rfl) .nil))))) ?_
    refine Tri.seq fun K7 hK7 => ?_
    refine Tri.region ?_
    refine st (OK1.mv (Has.t rfl)) rfl ?_
    refine st (OK1.mv (Has.t rfl)) rfl ?_
    refine st (OK1.eq (OK1.call (mul_low) (.cons (Has.t rfl) (.cons (Has.t rfl) .nil))) ((show isWords ((words (val xs)).take N) = isWords p from SlM_eq hp.symm))) rfl ?_
    refine st (OK1.mv (Has.t rfl)) rfl ?_
    refine st (OK1.mv (Has.t rfl)) rfl ?_
    refine st (OK1.eq (OK1.call (mul_high) (.cons (Has.t rfl) (.cons (Has.t rfl) .nil))) ((show isWords ((words (val xs)).drop N) = isWords q from SlM_eq hq.symm))) rfl ?_
    refine st (OK1.mv (Has.t rfl)) rfl ?_
    refine st (OK1.mv (Has.t rfl)) rfl ?_
    refine st (OK1.eq (OK1.call (mul_low) (.cons (Has.t rfl) (.cons (Has.t rfl) .nil))) ((show isWords ((words (val ys)).take N) = isWords r from SlM_eq hr.symm))) rfl ?_
    refine st (OK1.mv (Has.t rfl)) rfl ?_
    refine st (OK1.mv (Has.t rfl)) rfl ?_
    refine st (OK1.eq (OK1.call (mul_high) (.cons (Has.t rfl) (.cons (Has.t rfl) .nil))) ((show isWords ((words (val ys)).drop N) = isWords s from SlM_eq hs.symm))) rfl ?_
    refine st (OK1.as (Has.t rfl)) rfl ?_
    refine st (OK1.as (Has.t rfl)) rfl ?_
    refine st (OK1.as (Has.t rfl)) rfl ?_
    refine st (OK1.as (Has.t rfl)) rfl ?_
    refine nl ?_
    refine At.thn (hK7 _ _ ?_); clear hK7
    refine Tri.cv (Cv.wk (.cons (t := 4) (Has.t rfl) (.cons (t := 5) (Has.t rfl) (.cons (t := 6) (Has.t rfl) (.cons (t := 7) (Has.t rfl) (.cons (t := 8) (Has.t rfl) (.cons (t := 9) (Has.t rfl) .nil))))))) ?_
    refine Tri.seq fun K8 hK8 => ?_
    refine Tri.region ?_
    refine st (OK1.mv (Has.t rfl)) rfl ?_
    refine st (OK1.mv (Has.t rfl)) rfl ?_
    refine st (OK1.call (IH _ _ (by omega) (by omega) (by omega)) (.cons (Has.t rfl) (.cons (Has.t rfl) .nil))) rfl ?_
    refine st (OK1.mv (Has.t rfl)) rfl ?_
    refine st (OK1.mv (Has.t rfl)) rfl ?_
    refine st (OK1.call (IH _ _ (by omega) (by omega) (by omega)) (.cons (Has.t rfl) (.cons (Has.t rfl) .nil))) rfl ?_
    refine st (OK1.as (Has.t rfl)) rfl ?_
    refine st (OK1.as (Has.t rfl)) rfl ?_
    refine nl ?_
    refine At.thn (hK8 _ _ ?_); clear hK8
    refine Tri.cv (Cv.wk (.cons (t := 4) (Has.t rfl) (.cons (t := 5) (Has.t rfl) (.cons (t := 6) (Has.t rfl) (.cons (t := 7) (Has.t rfl) (.cons (t := 8) (Has.t rfl) (.cons (t := 9) (Has.t rfl) (.cons (t := 10) (Has.t rfl) (.cons (t := 11) (Has.t rfl) .nil))))))))) ?_
    refine Tri.seq fun K9 hK9 => ?_
    refine Tri.region ?_
    refine st (OK1.mv (Has.t rfl)) rfl ?_
    refine st (OK1.mv (Has.t rfl)) rfl ?_
    refine st (OK1.eq (OK1.call (nat_Add (by omega) (by omega)) (.cons (Has.t rfl) (.cons (Has.t rfl) .nil))) ((show isWords (words (val p + val q)) = _ from rfl))) rfl ?_
    refine st (OK1.mv (Has.t rfl)) rfl ?_
    refine st (OK1.mv (Has.t rfl)) rfl ?_
    refine st (OK1.call (nat_Add (by omega) (by omega)) (.cons (Has.t rfl) (.cons (Has.t rfl) .nil))) rfl ?_
    refine st (OK1.eq (OK1.call (IH _ _ (by simp only [val_words]; omega) (by simp only [val_words]; omega) (by simp only [val_words]; omega)) (.cons (Has.t rfl) (.cons (Has.t rfl) .nil))) ((show isWords _ = isWords (words ((val p + val q) * (val r + val s))) from SlM_eq (by rw [val_words, val_words])))) rfl ?_
    refine st (OK1.mv (Has.t rfl)) rfl ?_
    refine st (OK1.eq (OK1.call (mul_less (by simp only [val_words]; omega)) (.cons (Has.t rfl) (.cons (Has.t rfl) .nil))) ((show isWords _ = isWords (words ((val p + val q) * (val r + val s) - val p * val r)) from SlM_eq (by rw [val_words, val_words])))) rfl ?_
    refine st (OK1.mv (Has.t rfl)) rfl ?_
    refine st (OK1.eq (OK1.call (mul_less (by simp only [val_words]; omega)) (.cons (Has.t rfl) (.cons (Has.t rfl) .nil))) ((show isWords _ = isWords (words ((val p + val q) * (val r + val s) - val p * val r - val q * val s)) from SlM_eq (by rw [val_words, val_words])))) rfl ?_
    refine st (OK1.as (Has.t rfl)) rfl ?_
    refine nl ?_
    refine At.thn (hK9 _ _ ?_); clear hK9
    refine Tri.cv (Cv.wk (.cons (t := 4) (Has.t rfl) (.cons (t := 5) (Has.t rfl) (.cons (t := 10) (Has.t rfl) (.cons (t := 11) (Has.t rfl) (.cons (t := 12) (Has.t rfl) .nil)))))) ?_
    refine Tri.seq fun K10 hK10 => ?_
    refine Tri.region ?_
    refine st (OK1.mv (Has.t rfl)) rfl ?_
    refine st (OK1.mv (Has.t rfl)) rfl ?_
    refine st (OK1.mv (Has.t rfl)) rfl ?_
    refine st (OK1.mv (Has.t rfl)) rfl ?_
    refine st (OK1.call (mul_joined (by simp only [val_words]; omega) (by omega) (by omega) (by omega)) (.cons (Has.t rfl) (.cons (Has.t rfl) (.cons (Has.t rfl) (.cons (Has.t rfl) .nil))))) rfl ?_
    refine st (OK1.as (Has.t rfl)) rfl ?_
    refine nl ?_
    refine At.thn (hK10 _ _ ?_); clear hK10
    refine Tri.cv (Cv.wk (.cons (t := 4) (Has.t rfl) .nil)) ?_
    refine Tri.ret ?_
    refine rt1 (.inl rfl) Tryz.results89 rfl (.tmp (Has.t' rfl ?_) .nil)
    all_goals (exact SlM_eq (by simp only [val_words]; rw [kara, ea, eb]))
theorem mul_Mul : ∀ {xs ys : List Nat}, (List.length (words (val xs))) ≤ 1000000000 → (List.length (words (val ys))) ≤ 1000000000 → Ctr Tryz.prog 89 [isWords xs, isWords ys] (isWords (words (val xs * val ys))) := by
  have h : ∀ N, ∀ xs ys : List Nat, max ((List.length (words (val xs)))) ((List.length (words (val ys)))) ≤ N → (List.length (words (val xs))) ≤ 1000000000 → (List.length (words (val ys))) ≤ 1000000000 → Ctr Tryz.prog 89 [isWords xs, isWords ys] (isWords (words (val xs * val ys))) := by
    intro N
    induction N with
    | zero => intro xs ys h hx hy; exact mul_MulStep hx hy (fun us vs hl => absurd hl (by omega))
    | succ N ih => intro xs ys h hx hy; exact mul_MulStep hx hy (fun us vs hl => ih us vs (by omega))
  intro xs ys hx hy
  exact h _ xs ys (Nat.le_refl _) hx hy
end Go.Proofs.YtkgipdidomikbaaGreat
/- Contracts: whole numbers. -/
namespace Go.Proofs.YtkgipdidomikbaaGreat
open Go.En Go.RowKit
set_option linter.unusedVariables false
set_option maxRecDepth 10000
open Go.Nt
set_option maxHeartbeats 4000000 in
theorem zint_From {xs : List Nat} {m : Bool} (hx : (List.length (words (val xs))) ≤ 4294967296) : Ctr Tryz.prog 48 [isWords xs, isB m] (isZ (zv m xs)) := by
  refine Ctr.intro Tryz.func48 rfl (by kernel_rfl) Tryz.ntmps48 rfl fun w0 F0 => ?_
  refine Tri.cv (Cv.wk (.cons (t := 0) (Has.t rfl) (.cons (t := 1) (Has.t rfl) .nil))) ?_
  refine Tri.fact (Has.lenLt (Has.t (t := 0) rfl)) fun lt0 => ?_
  refine Tri.fact (Has.okW (Has.t (t := 0) rfl)) fun ok0 => ?_
  refine Tri.seq fun K1 hK1 => ?_
  refine Tri.region ?_
  refine Ops.alloc [isB false, SlM isU []] zero61 (fun _ _ => ⟨rfl, nilM _ _, trivial⟩) rfl fun b1 => ?_
  refine nl ?_
  refine At.thn (hK1 _ _ ?_); clear hK1
  refine Tri.seq fun K2 hK2 => ?_
  refine Tri.region ?_
  refine st (OK1.mv (Has.t rfl)) rfl ?_
  refine st (OK1.call (nat_Norm (by with_reducible assumption)) (.cons (Has.t rfl) .nil)) rfl ?_
  refine st (OK1.as (Has.t rfl)) rfl ?_
  refine nl ?_
  refine At.thn (hK2 _ _ ?_); clear hK2
  refine Tri.seq fun K3 hK3 => ?_
  refine Tri.region ?_
  refine st (OK1.mv (Has.t rfl)) rfl ?_
  refine st (OK1.mv (Has.t rfl)) rfl ?_
  refine stT rfl rfl (fun hg => have hg' := BP.t hg; OK1.mv (Has.t rfl)) rfl ?_
  refine stT rfl rfl (fun hg => have hg' := BP.t hg; OK1.len sl59 (Has.g rfl hg)) rfl ?_
  refine stT rfl rfl (fun hg => have hg' := BP.t hg; OK1.gtI (Has.g rfl hg) (Has.cI 0 rfl)) rfl ?_
  refine st (OK1.pickAnd (Has.t rfl) (fun h => Has.g rfl h)) rfl ?_
  refine st (OK1.mv (Has.t rfl)) rfl ?_
  refine st (OK1.build [isB false, SlM isU []] pl61 zero61 (fun _ _ => ⟨rfl, nilM _ _, trivial⟩) (.cons (Has.t rfl) rfl rfl rfl (.cons (Has.t rfl) rfl rfl rfl .nil)) (Z'' := [_, _]) rfl) rfl ?_
  refine Ops.store (Has.t rfl) (Has.t rfl) (i := 0) rfl ty61 rfl rfl (Ss' := [_, _]) rfl (M' := [(some _, cellM [_, _])]) rfl ?_
  refine nl ?_
  refine At.thn (hK3 _ _ ?_); clear hK3
  refine Tri.cv (Cv.wk (.cons (t := 4) (Has.t rfl) .nil)) ?_
  refine Tri.ret ?_
  refine rt1 (.inl rfl) Tryz.results48 rfl (.cell rfl (i := 0) rfl ty61 rfl ?_ .nil)
  · exact isZ_of (from_neg m xs) (by rw [zv_abs])
set_option maxHeartbeats 4000000 in
theorem zint_Of {x : Int} : Ctr Tryz.prog 34 [isI x] (isZ x) := by
  refine Ctr.intro Tryz.func34 rfl (by kernel_rfl) Tryz.ntmps34 rfl fun w0 F0 => ?_
  refine Tri.cv (Cv.wk (.cons (t := 0) (Has.t rfl) .nil)) ?_
  refine Tri.fact (Has.rngI (Has.t (t := 0) rfl)) fun lt0 => ?_
  refine Tri.seq fun K1 hK1 => ?_
  refine Tri.region ?_
  refine Ops.alloc [isB false, SlM isU []] zero61 (fun _ _ => ⟨rfl, nilM _ _, trivial⟩) rfl fun b1 => ?_
  refine nl ?_
  refine At.thn (hK1 _ _ ?_); clear hK1
  refine Tri.seq fun K2 hK2 => ?_
  refine Tri.seq fun K3 hK3 => ?_
  refine Tri.region ?_
  refine st (OK1.mv (Has.t rfl)) rfl ?_
  refine st (OK1.ltI (Has.t rfl) (Has.cI 0 rfl)) rfl ?_
  refine nl ?_
  refine At.thn (hK3 _ _ ?_); clear hK3
  refine Tri.cond (Has.t rfl) (fun hc1 => ?_) (fun hc1 => ?_)
  · have hc1 := BP.t hc1
    have hN : x < 0 := hc1
    refine Tri.seq fun K4 hK4 => ?_
    refine Tri.region ?_
    refine st (OK1.mv (Has.t rfl)) rfl ?_
    refine st (OK1.convIUw un2 un28 (Has.t rfl)) rfl ?_
    refine st (OK1.eq (OK1.negU (Has.t rfl) (by omega)) ((show isU _ = isU x.natAbs from isU_eq (neg_word hc1 (by omega))))) rfl ?_
    refine st (OK1.call (nat_Of) (.cons (Has.t rfl) .nil)) rfl ?_
    refine st (OK1.call (zint_From (by simp only [val_words]; exact Nat.le_trans (nw_small' (by omega)) (by decide))) (.cons (Has.t rfl) (.cons (Has.cB true) .nil))) rfl ?_
    refine Ops.store (Has.t rfl) (Has.t rfl) (i := 0) rfl ty61 rfl rfl (Ss' := [_, _]) rfl (M' := [(some _, cellM [_, _])]) rfl ?_
    refine nl ?_
    refine At.thn (hK4 _ _ ?_); clear hK4
    refine Tri.cv (Cv.wk (.cons (t := 0) (Has.t rfl) (.cons (t := 2) (Has.t rfl) .nil))) ?_
    refine Tri.ret ?_
    refine At.thr ?_
    refine rt1 (.inl rfl) Tryz.results34 rfl (.cell rfl (i := 0) rfl ty61 rfl ?_ .nil)
    · exact isZ_eq (by rw [from_word, if_pos rfl]; omega)
  · have hc1 := BP.f hc1
    have hN : 0 ≤ x := (by omega)
    refine Tri.skip ?_
    refine At.thn (hK2 _ _ ?_); clear hK2
    refine Tri.seq fun K5 hK5 => ?_
    refine Tri.region ?_
    refine st (OK1.mv (Has.t rfl)) rfl ?_
    refine st (OK1.eq (OK1.convIU un2 un28 (Has.t rfl) (by with_reducible assumption) (by omega)) ((show isU _ = isU x.natAbs from isU_eq (by omega)))) rfl ?_
    refine st (OK1.call (nat_Of) (.cons (Has.t rfl) .nil)) rfl ?_
    refine st (OK1.call (zint_From (by simp only [val_words]; exact Nat.le_trans (nw_small' (by omega)) (by decide))) (.cons (Has.t rfl) (.cons (Has.cB false) .nil))) rfl ?_
    refine Ops.store (Has.t rfl) (Has.t rfl) (i := 0) rfl ty61 rfl rfl (Ss' := [_, _]) rfl (M' := [(some _, cellM [_, _])]) rfl ?_
    refine nl ?_
    refine At.thn (hK5 _ _ ?_); clear hK5
    refine Tri.cv (Cv.wk (.cons (t := 2) (Has.t rfl) .nil)) ?_
    refine Tri.ret ?_
    refine rt1 (.inl rfl) Tryz.results34 rfl (.cell rfl (i := 0) rfl ty61 rfl ?_ .nil)
    · exact isZ_eq (by rw [from_word, if_neg (by decide)]; omega)
set_option maxHeartbeats 4000000 in
theorem zint_Sign {m : Bool} {xs : List Nat} (hx : (List.length (words (val xs))) < 4294900000) : Ctr Tryz.prog 64 [Flat [isB m, isWords xs]] (isI (sgn (zv m xs))) := by
  refine Ctr.intro Tryz.func64 rfl (by kernel_rfl) Tryz.ntmps64 rfl fun w0 F0 => ?_
  refine Tri.cv (Cv.wk (.cons (t := 0) (Has.t rfl) .nil)) ?_
  refine Tri.fact (Has.okZ (Has.t (t := 0) rfl)) fun okz0 => ?_
  refine Tri.seq fun K1 hK1 => ?_
  refine Tri.region ?_
  refine Ops.box (Has.t rfl) rfl fun b1 => ?_
  refine st (OK1.as (Has.cI 0 rfl)) rfl ?_
  refine nl ?_
  refine At.thn (hK1 _ _ ?_); clear hK1
  refine Tri.seq fun K2 hK2 => ?_
  refine Tri.block ?_
  refine Tri.seq fun K3 hK3 => ?_
  refine Tri.region ?_
  refine st (OK1.fieldAddr (Has.t rfl) fld61_1 ty59) rfl ?_
  refine st (OK1.load1 (Has.t rfl) (i := 0) rfl ty59 rfl) rfl ?_
  refine st (OK1.call (nat_Bits (by omega)) (.cons (Has.t rfl) .nil)) rfl ?_
  refine st (OK1.eqI (Has.t rfl) (Has.cI 0 rfl)) rfl ?_
  refine st (OK1.as (Has.t rfl)) rfl ?_
  refine nl ?_
  refine At.thn (hK3 _ _ ?_); clear hK3
  refine Tri.cv (Cv.wk (.cons (t := 1) (Has.t rfl) (.cons (t := 2) (Has.t rfl) (.cons (t := 3) (Has.t rfl) .nil)))) ?_
  refine Tri.cond (Has.t rfl) (fun hc1 => ?_) (fun hc1 => ?_)
  · have hc1 := BP.t hc1
    refine Tri.seq fun K4 hK4 => ?_
    refine Tri.region ?_
    refine st (OK1.as (Has.cI 0 rfl)) rfl ?_
    refine nl ?_
    refine At.thn (hK4 _ _ ?_); clear hK4
    refine Tri.ret ?_
    refine At.blr ?_
    refine At.thr ?_
    refine rt1 (.inl rfl) Tryz.results64 rfl (.tmp (Has.t' rfl ?_) .nil)
    all_goals (exact isI_eq (sgn_zero hc1))
  · have hc1 := BP.f hc1
    refine Tri.seq fun K5 hK5 => ?_
    refine Tri.region ?_
    refine st (OK1.fieldAddr (Has.t rfl) fld61_0 ty4) rfl ?_
    refine st (OK1.load1 (Has.t rfl) (i := 0) rfl ty4 rfl) rfl ?_
    refine st (OK1.as (Has.t rfl)) rfl ?_
    refine nl ?_
    refine At.thn (hK5 _ _ ?_); clear hK5
    refine Tri.cond (Has.t rfl) (fun hc2 => ?_) (fun hc2 => ?_)
    · have hc2 := BP.t hc2
      have HM := hc2
      refine Tri.seq fun K6 hK6 => ?_
      refine Tri.region ?_
      refine st (OK1.as (Has.cI (-1) rfl)) rfl ?_
      refine nl ?_
      refine At.thn (hK6 _ _ ?_); clear hK6
      refine Tri.cv (Cv.wk (.cons (t := 2) (Has.t rfl) .nil)) ?_
      refine Tri.ret ?_
      refine At.blr ?_
      refine At.thr ?_
      refine rt1 (.inl rfl) Tryz.results64 rfl (.tmp (Has.t' rfl ?_) .nil)
      all_goals (exact isI_eq (by rw [← sgn_of hc1, if_pos HM]))
    · have hc2 := BP.f hc2
      have HM := hc2
      refine Tri.skip ?_
      refine At.bln ?_
      refine At.thn (hK2 _ _ ?_); clear hK2
      refine Tri.cv (Cv.wk (.cons (t := 2) (Has.t rfl) .nil)) ?_
      refine Tri.seq fun K7 hK7 => ?_
      refine Tri.region ?_
      refine st (OK1.as (Has.cI 1 rfl)) rfl ?_
      refine nl ?_
      refine At.thn (hK7 _ _ ?_); clear hK7
      refine Tri.ret ?_
      refine rt1 (.inl rfl) Tryz.results64 rfl (.tmp (Has.t' rfl ?_) .nil)
      all_goals (exact isI_eq (by rw [← sgn_of hc1, if_neg (by rw [HM]; decide)]))
set_option maxHeartbeats 4000000 in
theorem zint_Neg {m : Bool} {xs : List Nat} (hx : (List.length (words (val xs))) < 4294900000) : Ctr Tryz.prog 42 [Flat [isB m, isWords xs]] (isZ (-(zv m xs))) := by
  refine Ctr.intro Tryz.func42 rfl (by kernel_rfl) Tryz.ntmps42 rfl fun w0 F0 => ?_
  refine Tri.cv (Cv.wk (.cons (t := 0) (Has.t rfl) .nil)) ?_
  refine Tri.fact (Has.okZ (Has.t (t := 0) rfl)) fun okz0 => ?_
  refine Tri.seq fun K1 hK1 => ?_
  refine Tri.region ?_
  refine Ops.box (Has.t rfl) rfl fun b1 => ?_
  refine Ops.alloc [isB false, SlM isU []] zero61 (fun _ _ => ⟨rfl, nilM _ _, trivial⟩) rfl fun b2 => ?_
  refine nl ?_
  refine At.thn (hK1 _ _ ?_); clear hK1
  refine Tri.seq fun K2 hK2 => ?_
  refine Tri.region ?_
  refine st (OK1.fieldAddr (Has.t rfl) fld61_1 ty59) rfl ?_
  refine st (OK1.load1 (Has.t rfl) (i := 1) rfl ty59 rfl) rfl ?_
  refine st (OK1.fieldAddr (Has.t rfl) fld61_0 ty4) rfl ?_
  refine st (OK1.load1 (Has.t rfl) (i := 1) rfl ty4 rfl) rfl ?_
  refine st (OK1.not (Has.t rfl)) rfl ?_
  refine st (OK1.call (zint_From (by omega)) (.cons (Has.t rfl) (.cons (Has.t rfl) .nil))) rfl ?_
  refine Ops.store (Has.t rfl) (Has.t rfl) (i := 0) rfl ty61 rfl rfl (Ss' := [_, _]) rfl (M' := [(some _, cellM [_, _]), _]) rfl ?_
  refine nl ?_
  refine At.thn (hK2 _ _ ?_); clear hK2
  refine Tri.cv (Cv.wk (.cons (t := 2) (Has.t rfl) .nil)) ?_
  refine Tri.ret ?_
  refine rt1 (.inl rfl) Tryz.results42 rfl (.cell rfl (i := 0) rfl ty61 rfl ?_ .nil)
  · exact isZ_eq (zv_not m xs)
set_option maxHeartbeats 4000000 in
theorem zint_Add {m n : Bool} {xs ys : List Nat} (hx : (List.length (words (val xs))) < 4294700000) (hy : (List.length (words (val ys))) < 4294700000) : Ctr Tryz.prog 67 [Flat [isB m, isWords xs], Flat [isB n, isWords ys]] (isZ (zv m xs + zv n ys)) := by
  refine Ctr.intro Tryz.func67 rfl (by kernel_rfl) Tryz.ntmps67 rfl fun w0 F0 => ?_
  refine Tri.cv (Cv.wk (.cons (t := 0) (Has.t rfl) (.cons (t := 1) (Has.t rfl) .nil))) ?_
  refine Tri.fact (Has.okZ (Has.t (t := 0) rfl)) fun okz0 => ?_
  refine Tri.fact (Has.okZ (Has.t (t := 1) rfl)) fun okz1 => ?_
  have ha := nw_add_le (val xs) (val ys)
  have hb := nw_mono (Nat.sub_le (val xs) (val ys))
  have hd := nw_mono (Nat.sub_le (val ys) (val xs))
  refine Tri.seq fun K1 hK1 => ?_
  refine Tri.region ?_
  refine Ops.box (Has.t rfl) rfl fun b1 => ?_
  refine Ops.box (Has.t rfl) rfl fun b2 => ?_
  refine Ops.alloc [isB false, SlM isU []] zero61 (fun _ _ => ⟨rfl, nilM _ _, trivial⟩) rfl fun b3 => ?_
  refine nl ?_
  refine At.thn (hK1 _ _ ?_); clear hK1
  refine Tri.seq fun K2 hK2 => ?_
  refine Tri.seq fun K3 hK3 => ?_
  refine Tri.region ?_
  refine st (OK1.fieldAddr (Has.t rfl) fld61_0 ty4) rfl ?_
  refine st (OK1.load1 (Has.t rfl) (i := 2) rfl ty4 rfl) rfl ?_
  refine st (OK1.fieldAddr (Has.t rfl) fld61_0 ty4) rfl ?_
  refine st (OK1.load1 (Has.t rfl) (i := 1) rfl ty4 rfl) rfl ?_
  refine st (OK1.eqB (du := un4) rfl (Has.t rfl) (Has.t rfl)) rfl ?_
  refine nl ?_
  refine At.thn (hK3 _ _ ?_); clear hK3
  refine Tri.cv (Cv.wk (.cons (t := 2) (Has.t rfl) (.cons (t := 3) (Has.t rfl) (.cons (t := 4) (Has.t rfl) (.cons (t := 13) (Has.t rfl) .nil))))) ?_
  refine Tri.cond (Has.t rfl) (fun hc1 => ?_) (fun hc1 => ?_)
  · have hc1 := BP.t hc1
    have HM : m = n := eq_of_beq hc1
    refine Tri.seq fun K4 hK4 => ?_
    refine Tri.dr ?_
    refine DrG.st (i := 0) [] rfl rfl rfl (by kernel_rfl) (OKG.o rfl (OK1.fieldAddr (Has.t rfl) fld61_1 ty59)) ?_
    refine DrG.st (i := 1) [14] rfl rfl rfl (by kernel_rfl) (OKG.o rfl (OK1.load1 (Has.t rfl) (i := 2) rfl ty59 rfl)) ?_
    refine DrG.st (i := 2) [] rfl rfl rfl (by kernel_rfl) (OKG.o rfl (OK1.fieldAddr (Has.t rfl) fld61_1 ty59)) ?_
    refine DrG.st (i := 3) [16] rfl rfl rfl (by kernel_rfl) (OKG.o rfl (OK1.load1 (Has.t rfl) (i := 1) rfl ty59 rfl)) ?_
    refine DrG.st (i := 4) [15, 17] rfl rfl rfl (by kernel_rfl) (OKG.o rfl (OK1.call (nat_Add (by omega) (by omega)) (.cons (Has.t rfl) (.cons (Has.t rfl) .nil)))) ?_
    refine DrG.st (i := 5) [] rfl rfl rfl (by kernel_rfl) (OKG.o rfl (OK1.fieldAddr (Has.t rfl) fld61_0 ty4)) ?_
    refine DrG.st (i := 6) [19] rfl rfl rfl (by kernel_rfl) (OKG.o rfl (OK1.load1 (Has.t rfl) (i := 2) rfl ty4 rfl)) ?_
    refine DrG.fin (n := 7) mixed (by kernel_rfl) (by kernel_rfl) (by kernel_rfl) ?_
    refine Ops.cv (Cv.wk (.cons (t := 2) (Has.t rfl) (.cons (t := 3) (Has.t rfl) (.cons (t := 4) (Has.t rfl) (.cons (t := 18) (Has.t rfl) (.cons (t := 20) (Has.t rfl) .nil)))))) ?_
    refine st (OK1.call (zint_From (by simp only [val_words, zv_nf]; omega)) (.cons (Has.t rfl) (.cons (Has.t rfl) .nil))) rfl ?_
    refine Ops.store (Has.t rfl) (Has.t rfl) (i := 0) rfl ty61 rfl rfl (Ss' := [_, _]) rfl (M' := [(some _, cellM [_, _]), _, _]) rfl ?_
    refine nl ?_
    refine At.thn (hK4 _ _ ?_); clear hK4
    refine Tri.ret ?_
    refine At.thr ?_
    refine rt1 (.inl rfl) Tryz.results67 rfl (.cell rfl (i := 0) rfl ty61 rfl ?_ .nil)
    · exact isZ_eq (zv_add_same HM xs ys).symm
  · have hc1 := BP.f hc1
    have HM : m ≠ n := fun e => by rw [e] at hc1; simp at hc1
    refine Tri.skip ?_
    refine At.thn (hK2 _ _ ?_); clear hK2
    refine Tri.seq fun K5 hK5 => ?_
    refine Tri.seq fun K6 hK6 => ?_
    refine Tri.region ?_
    refine st (OK1.fieldAddr (Has.t rfl) fld61_1 ty59) rfl ?_
    refine st (OK1.load1 (Has.t rfl) (i := 2) rfl ty59 rfl) rfl ?_
    refine st (OK1.fieldAddr (Has.t rfl) fld61_1 ty59) rfl ?_
    refine st (OK1.load1 (Has.t rfl) (i := 1) rfl ty59 rfl) rfl ?_
    refine st (OK1.call (nat_Sub (by omega)) (.cons (Has.t rfl) (.cons (Has.t rfl) .nil))) rfl ?_
    refine st (OK1.mv (Has.t rfl)) rfl ?_
    refine st (OK1.ext (Has.t rfl) rfl) rfl ?_
    refine st (OK1.ext (Has.t rfl) rfl) rfl ?_
    refine st (OK1.as (Has.t rfl)) rfl ?_
    refine st (OK1.as (Has.t rfl)) rfl ?_
    refine nl ?_
    refine At.thn (hK6 _ _ ?_); clear hK6
    refine Tri.cv (Cv.wk (.cons (t := 2) (Has.t rfl) (.cons (t := 3) (Has.t rfl) (.cons (t := 4) (Has.t rfl) (.cons (t := 5) (Has.t rfl) (.cons (t := 6) (Has.t rfl) .nil)))))) ?_
    refine Tri.seq fun K7 hK7 => ?_
    refine Tri.region ?_
    refine st (OK1.mv (Has.t rfl)) rfl ?_
    refine nl ?_
    refine At.thn (hK7 _ _ ?_); clear hK7
    refine Tri.cond (Has.t rfl) (fun hc2 => ?_) (fun hc2 => ?_)
    · have hc2 := BP.t hc2
      have HL : val ys ≤ val xs := hc2
      refine Tri.seq fun K8 hK8 => ?_
      refine Tri.region ?_
      refine st (OK1.mv (Has.t rfl)) rfl ?_
      refine st (OK1.fieldAddr (Has.t rfl) fld61_0 ty4) rfl ?_
      refine st (OK1.load1 (Has.t rfl) (i := 2) rfl ty4 rfl) rfl ?_
      refine st (OK1.call (zint_From (by simp only [val_words, zv_nf]; omega)) (.cons (Has.t rfl) (.cons (Has.t rfl) .nil))) rfl ?_
      refine Ops.store (Has.t rfl) (Has.t rfl) (i := 0) rfl ty61 rfl rfl (Ss' := [_, _]) rfl (M' := [(some _, cellM [_, _]), _, _]) rfl ?_
      refine nl ?_
      refine At.thn (hK8 _ _ ?_); clear hK8
      refine Tri.cv (Cv.wk (.cons (t := 2) (Has.t rfl) (.cons (t := 3) (Has.t rfl) (.cons (t := 4) (Has.t rfl) .nil)))) ?_
      refine Tri.ret ?_
      refine At.thr ?_
      refine rt1 (.inl rfl) Tryz.results67 rfl (.cell rfl (i := 0) rfl ty61 rfl ?_ .nil)
      · exact isZ_eq (zv_add_sub HM HL).symm
    · have hc2 := BP.f hc2
      have HL : ¬ val ys ≤ val xs := (by omega)
      refine Tri.skip ?_
      refine At.thn (hK5 _ _ ?_); clear hK5
      refine Tri.seq fun K9 hK9 => ?_
      refine Tri.region ?_
      refine st (OK1.fieldAddr (Has.t rfl) fld61_1 ty59) rfl ?_
      refine st (OK1.load1 (Has.t rfl) (i := 1) rfl ty59 rfl) rfl ?_
      refine st (OK1.fieldAddr (Has.t rfl) fld61_1 ty59) rfl ?_
      refine st (OK1.load1 (Has.t rfl) (i := 2) rfl ty59 rfl) rfl ?_
      refine st (OK1.call (nat_Sub (by omega)) (.cons (Has.t rfl) (.cons (Has.t rfl) .nil))) rfl ?_
      refine st (OK1.mv (Has.t rfl)) rfl ?_
      refine st (OK1.ext (Has.t rfl) rfl) rfl ?_
      refine st (OK1.ext (Has.t rfl) rfl) rfl ?_
      refine st (OK1.as (Has.t rfl)) rfl ?_
      refine st (OK1.as (Has.t rfl)) rfl ?_
      refine nl ?_
      refine At.thn (hK9 _ _ ?_); clear hK9
      refine Tri.cv (Cv.wk (.cons (t := 3) (Has.t rfl) (.cons (t := 4) (Has.t rfl) (.cons (t := 7) (Has.t rfl) .nil)))) ?_
      refine Tri.seq fun K10 hK10 => ?_
      refine Tri.region ?_
      refine st (OK1.mv (Has.t rfl)) rfl ?_
      refine st (OK1.fieldAddr (Has.t rfl) fld61_0 ty4) rfl ?_
      refine st (OK1.load1 (Has.t rfl) (i := 1) rfl ty4 rfl) rfl ?_
      refine st (OK1.call (zint_From (by simp only [val_words, zv_nf]; omega)) (.cons (Has.t rfl) (.cons (Has.t rfl) .nil))) rfl ?_
      refine Ops.store (Has.t rfl) (Has.t rfl) (i := 0) rfl ty61 rfl rfl (Ss' := [_, _]) rfl (M' := [(some _, cellM [_, _]), _, _]) rfl ?_
      refine nl ?_
      refine At.thn (hK10 _ _ ?_); clear hK10
      refine Tri.cv (Cv.wk (.cons (t := 4) (Has.t rfl) .nil)) ?_
      refine Tri.ret ?_
      refine rt1 (.inl rfl) Tryz.results67 rfl (.cell rfl (i := 0) rfl ty61 rfl ?_ .nil)
      · exact isZ_eq (by rw [Int.add_comm]; exact (zv_add_sub (fun e => HM e.symm) (by omega)).symm)
set_option maxHeartbeats 4000000 in
theorem zint_Sub {m n : Bool} {xs ys : List Nat} (hx : (List.length (words (val xs))) < 4294700000) (hy : (List.length (words (val ys))) < 4294700000) : Ctr Tryz.prog 63 [Flat [isB m, isWords xs], Flat [isB n, isWords ys]] (isZ (zv m xs - zv n ys)) := by
  refine Ctr.intro Tryz.func63 rfl (by kernel_rfl) Tryz.ntmps63 rfl fun w0 F0 => ?_
  refine Tri.cv (Cv.wk (.cons (t := 0) (Has.t rfl) (.cons (t := 1) (Has.t rfl) .nil))) ?_
  refine Tri.fact (Has.okZ (Has.t (t := 0) rfl)) fun okz0 => ?_
  refine Tri.fact (Has.okZ (Has.t (t := 1) rfl)) fun okz1 => ?_
  refine Tri.seq fun K1 hK1 => ?_
  refine Tri.region ?_
  refine Ops.box (Has.t rfl) rfl fun b1 => ?_
  refine Ops.box (Has.t rfl) rfl fun b2 => ?_
  refine Ops.alloc [isB false, SlM isU []] zero61 (fun _ _ => ⟨rfl, nilM _ _, trivial⟩) rfl fun b3 => ?_
  refine nl ?_
  refine At.thn (hK1 _ _ ?_); clear hK1
  refine Tri.seq fun K2 hK2 => ?_
  refine Tri.dr ?_
  refine DrG.st (i := 0) [] rfl rfl rfl (by kernel_rfl) (OKG.o rfl (OK1.load (Has.t rfl) (i := 2) rfl ty61 rfl (Ss' := [_, _]) rfl)) ?_
  refine DrG.st (i := 1) [] rfl rfl rfl (by kernel_rfl) (OKG.o rfl (OK1.load (Has.t rfl) (i := 1) rfl ty61 rfl (Ss' := [_, _]) rfl)) ?_
  refine DrG.st (i := 2) [6] rfl rfl rfl (by kernel_rfl) (OKG.o rfl (OK1.call (zint_Neg (by omega)) (.cons (Has.t rfl) .nil))) ?_
  refine DrG.fin (n := 3) mixed (by kernel_rfl) (by kernel_rfl) (by kernel_rfl) ?_
  refine Ops.cv (Cv.wk (.cons (t := 4) (Has.t rfl) (.cons (t := 5) (Has.t rfl) (.cons (t := 7) (Has.t rfl) .nil)))) ?_
  refine st (OK1.call (zint_Add (by omega) (by simp only [val_words]; rw [Int.natAbs_neg, zv_abs]; omega)) (.cons (Has.t rfl) (.cons (Has.t rfl) .nil))) rfl ?_
  refine Ops.store (Has.t rfl) (Has.t rfl) (i := 0) rfl ty61 rfl rfl (Ss' := [_, _]) rfl (M' := [(some _, cellM [_, _]), _, _]) rfl ?_
  refine nl ?_
  refine At.thn (hK2 _ _ ?_); clear hK2
  refine Tri.ret ?_
  refine rt1 (.inl rfl) Tryz.results63 rfl (.cell rfl (i := 0) rfl ty61 rfl ?_ .nil)
  · exact isZ_eq (by rw [zv_nf]; omega)
set_option maxHeartbeats 4000000 in
theorem zint_Mul {m n : Bool} {xs ys : List Nat} (hx : (List.length (words (val xs))) ≤ 1000000000) (hy : (List.length (words (val ys))) ≤ 1000000000) : Ctr Tryz.prog 68 [Flat [isB m, isWords xs], Flat [isB n, isWords ys]] (isZ (zv m xs * zv n ys)) := by
  refine Ctr.intro Tryz.func68 rfl (by kernel_rfl) Tryz.ntmps68 rfl fun w0 F0 => ?_
  refine Tri.cv (Cv.wk (.cons (t := 0) (Has.t rfl) (.cons (t := 1) (Has.t rfl) .nil))) ?_
  refine Tri.fact (Has.okZ (Has.t (t := 0) rfl)) fun okz0 => ?_
  refine Tri.fact (Has.okZ (Has.t (t := 1) rfl)) fun okz1 => ?_
  have hm := nw_mul_le (val xs) (val ys)
  refine Tri.seq fun K1 hK1 => ?_
  refine Tri.region ?_
  refine Ops.box (Has.t rfl) rfl fun b1 => ?_
  refine Ops.box (Has.t rfl) rfl fun b2 => ?_
  refine Ops.alloc [isB false, SlM isU []] zero61 (fun _ _ => ⟨rfl, nilM _ _, trivial⟩) rfl fun b3 => ?_
  refine nl ?_
  refine At.thn (hK1 _ _ ?_); clear hK1
  refine Tri.seq fun K2 hK2 => ?_
  refine Tri.dr ?_
  refine DrG.st (i := 0) [] rfl rfl rfl (by kernel_rfl) (OKG.o rfl (OK1.fieldAddr (Has.t rfl) fld61_1 ty59)) ?_
  refine DrG.st (i := 1) [5] rfl rfl rfl (by kernel_rfl) (OKG.o rfl (OK1.load1 (Has.t rfl) (i := 2) rfl ty59 rfl)) ?_
  refine DrG.st (i := 2) [] rfl rfl rfl (by kernel_rfl) (OKG.o rfl (OK1.fieldAddr (Has.t rfl) fld61_1 ty59)) ?_
  refine DrG.st (i := 3) [7] rfl rfl rfl (by kernel_rfl) (OKG.o rfl (OK1.load1 (Has.t rfl) (i := 1) rfl ty59 rfl)) ?_
  refine DrG.st (i := 4) [6, 8] rfl rfl rfl (by kernel_rfl) (OKG.o rfl (OK1.call (mul_Mul hx hy) (.cons (Has.t rfl) (.cons (Has.t rfl) .nil)))) ?_
  refine DrG.st (i := 5) [] rfl rfl rfl (by kernel_rfl) (OKG.o rfl (OK1.fieldAddr (Has.t rfl) fld61_0 ty4)) ?_
  refine DrG.st (i := 6) [10] rfl rfl rfl (by kernel_rfl) (OKG.o rfl (OK1.load1 (Has.t rfl) (i := 2) rfl ty4 rfl)) ?_
  refine DrG.st (i := 7) [] rfl rfl rfl (by kernel_rfl) (OKG.o rfl (OK1.fieldAddr (Has.t rfl) fld61_0 ty4)) ?_
  refine DrG.st (i := 8) [12] rfl rfl rfl (by kernel_rfl) (OKG.o rfl (OK1.load1 (Has.t rfl) (i := 1) rfl ty4 rfl)) ?_
  refine DrG.st (i := 9) [11, 13] rfl rfl rfl (by kernel_rfl) (OKG.o rfl (OK1.neB (du := un4) rfl (Has.t rfl) (Has.t rfl))) ?_
  refine DrG.fin (n := 10) mixed (by kernel_rfl) (by kernel_rfl) (by kernel_rfl) ?_
  refine Ops.cv (Cv.wk (.cons (t := 4) (Has.t rfl) (.cons (t := 9) (Has.t rfl) (.cons (t := 14) (Has.t rfl) .nil)))) ?_
  refine st (OK1.call (zint_From (by simp only [val_words, zv_nf]; omega)) (.cons (Has.t rfl) (.cons (Has.t rfl) .nil))) rfl ?_
  refine Ops.store (Has.t rfl) (Has.t rfl) (i := 0) rfl ty61 rfl rfl (Ss' := [_, _]) rfl (M' := [(some _, cellM [_, _]), _, _]) rfl ?_
  refine nl ?_
  refine At.thn (hK2 _ _ ?_); clear hK2
  refine Tri.ret ?_
  refine rt1 (.inl rfl) Tryz.results68 rfl (.cell rfl (i := 0) rfl ty61 rfl ?_ .nil)
  · exact isZ_eq (zv_mul m n xs ys).symm
set_option maxHeartbeats 4000000 in
theorem zint_Quo {m n : Bool} {xs ys : List Nat} (hx : (List.length (words (val xs))) < 4294700000) (hy : (List.length (words (val ys))) < 4294700000) : Ctr Tryz.prog 69 [Flat [isB m, isWords xs], Flat [isB n, isWords ys]] (isTup [isZ ((zv m xs).tdiv (zv n ys)), isZ (if zv n ys = 0 then 0 else (zv m xs).tmod (zv n ys)), isB (decide (zv n ys ≠ 0))]) := by
  refine Ctr.intro Tryz.func69 rfl (by kernel_rfl) Tryz.ntmps69 rfl fun w0 F0 => ?_
  refine Tri.cv (Cv.wk (.cons (t := 0) (Has.t rfl) (.cons (t := 1) (Has.t rfl) .nil))) ?_
  refine Tri.fact (Has.okZ (Has.t (t := 0) rfl)) fun okz0 => ?_
  refine Tri.fact (Has.okZ (Has.t (t := 1) rfl)) fun okz1 => ?_
  have ha := nw_mono (Nat.div_le_self (val xs) (val ys))
  have hb : (List.length (words (if val ys = 0 then 0 else val xs % val ys))) ≤ (List.length (words (val xs))) := nw_mono (by split; exact Nat.zero_le _; exact Nat.mod_le _ _)
  refine Tri.seq fun K1 hK1 => ?_
  refine Tri.region ?_
  refine Ops.box (Has.t rfl) rfl fun b1 => ?_
  refine Ops.box (Has.t rfl) rfl fun b2 => ?_
  refine Ops.alloc [isB false, SlM isU []] zero61 (fun _ _ => ⟨rfl, nilM _ _, trivial⟩) rfl fun b3 => ?_
  refine Ops.alloc [isB false, SlM isU []] zero61 (fun _ _ => ⟨rfl, nilM _ _, trivial⟩) rfl fun b4 => ?_
  refine st (OK1.as (Has.cB false)) rfl ?_
  refine nl ?_
  refine At.thn (hK1 _ _ ?_); clear hK1
  refine Tri.seq fun K2 hK2 => ?_
  refine Tri.region ?_
  refine st (OK1.fieldAddr (Has.t rfl) fld61_1 ty59) rfl ?_
  refine st (OK1.load1 (Has.t rfl) (i := 3) rfl ty59 rfl) rfl ?_
  refine st (OK1.fieldAddr (Has.t rfl) fld61_1 ty59) rfl ?_
  refine st (OK1.load1 (Has.t rfl) (i := 2) rfl ty59 rfl) rfl ?_
  refine st (OK1.call (div_DivMod (by omega) (by omega)) (.cons (Has.t rfl) (.cons (Has.t rfl) .nil))) rfl ?_
  refine st (OK1.mv (Has.t rfl)) rfl ?_
  refine st (OK1.ext (Has.t rfl) rfl) rfl ?_
  refine st (OK1.ext (Has.t rfl) rfl) rfl ?_
  refine st (OK1.ext (Has.t rfl) rfl) rfl ?_
  refine st (OK1.as (Has.t rfl)) rfl ?_
  refine st (OK1.as (Has.t rfl)) rfl ?_
  refine st (OK1.as (Has.t rfl)) rfl ?_
  refine nl ?_
  refine At.thn (hK2 _ _ ?_); clear hK2
  refine Tri.cv (Cv.wk (.cons (t := 2) (Has.t rfl) (.cons (t := 3) (Has.t rfl) (.cons (t := 4) (Has.t rfl) (.cons (t := 5) (Has.t rfl) (.cons (t := 6) (Has.t rfl) (.cons (t := 7) (Has.t rfl) (.cons (t := 8) (Has.t rfl) (.cons (t := 9) (Has.t rfl) .nil))))))))) ?_
  refine Tri.seq fun K3 hK3 => ?_
  refine Tri.drh [false, false, true, true] (Ms := [_, _]) rfl ?_
  refine DrH.st (i := 0) [] rfl rfl rfl (by kernel_rfl) (OKG.o rfl (OK1.mv (Has.t rfl))) ?_
  refine DrH.st (i := 1) [] rfl rfl rfl (by kernel_rfl) (OKG.o rfl (OK1.fieldAddr (Has.t rfl) fld61_0 ty4)) ?_
  refine DrH.st (i := 2) [20] rfl rfl rfl (by kernel_rfl) (OKG.o rfl (OK1.load1 (Has.t rfl) (i := 1) rfl ty4 rfl)) ?_
  refine DrH.st (i := 3) [] rfl rfl rfl (by kernel_rfl) (OKG.o rfl (OK1.fieldAddr (Has.t rfl) fld61_0 ty4)) ?_
  refine DrH.st (i := 4) [22] rfl rfl rfl (by kernel_rfl) (OKG.o rfl (OK1.load1 (Has.t rfl) (i := 0) rfl ty4 rfl)) ?_
  refine DrH.st (i := 5) [21, 23] rfl rfl rfl (by kernel_rfl) (OKG.o rfl (OK1.neB (du := un4) rfl (Has.t rfl) (Has.t rfl))) ?_
  refine DrH.st (i := 6) [19, 24] rfl rfl rfl (by kernel_rfl) (OKG.o rfl (OK1.call (zint_From (by simp only [val_words, zv_nf]; omega)) (.cons (Has.t rfl) (.cons (Has.t rfl) .nil)))) ?_
  refine DrH.st (i := 7) [] rfl rfl rfl (by kernel_rfl) (OKG.o rfl (OK1.mv (Has.t rfl))) ?_
  refine DrH.st (i := 8) [] rfl rfl rfl (by kernel_rfl) (OKG.o rfl (OK1.fieldAddr (Has.t rfl) fld61_0 ty4)) ?_
  refine DrH.st (i := 9) [27] rfl rfl rfl (by kernel_rfl) (OKG.o rfl (OK1.load1 (Has.t rfl) (i := 1) rfl ty4 rfl)) ?_
  refine DrH.st (i := 10) [26, 28] rfl rfl rfl (by kernel_rfl) (OKG.o rfl (OK1.call (zint_From (by simp only [val_words, zv_nf]; omega)) (.cons (Has.t rfl) (.cons (Has.t rfl) .nil)))) ?_
  refine DrH.st (i := 11) [] rfl rfl rfl (by kernel_rfl) (OKG.o rfl (OK1.mv (Has.t rfl))) ?_
  refine DrH.mid2 (.cons _ (.cons _ (.cons_cons _ (.cons_cons _ .slnil)))) ?_
  refine DrN2.st0 [25] rfl rfl (by kernel_rfl) (by kernel_rfl) (StS.store (Has.t rfl) (Has.t rfl) (i := 1) rfl ty61 rfl rfl (Ss' := [_, _]) rfl (M' := [_, (some _, cellM [_, _]), _, _]) rfl) (.cons _ (.cons _ (.cons_cons _ (.cons_cons _ .slnil)))) ?_
  refine DrN2.st0 [29] rfl rfl (by kernel_rfl) (by kernel_rfl) (StS.store (Has.t rfl) (Has.t rfl) (i := 0) rfl ty61 rfl rfl (Ss' := [_, _]) rfl (M' := [(some _, cellM [_, _]), _, _, _]) rfl) (.cons _ (.cons _ (.cons_cons _ (.cons_cons _ .slnil)))) ?_
  refine DrN2.fin0 (n := 14) mixed rfl (by kernel_rfl) (by kernel_rfl) (by kernel_rfl) ?_
  refine Ops.cv (Cv.wk (.cons (t := 4) (Has.t rfl) (.cons (t := 5) (Has.t rfl) (.cons (t := 6) (Has.t rfl) (.cons (t := 30) (Has.t rfl) .nil))))) ?_
  refine st (OK1.as (Has.t rfl)) rfl ?_
  refine nl ?_
  refine At.thn (hK3 _ _ ?_); clear hK3
  refine Tri.ret ?_
  refine rtN (.inl rfl) Tryz.results69 rfl rfl (.cell rfl (i := 1) rfl ty61 rfl ?_ (.cell rfl (i := 0) rfl ty61 rfl ?_ (.tmp (Has.t' rfl ?_) .nil)))
  · exact isZ_eq (zv_tdiv m n xs ys).symm
  · exact isZ_eq (quo_rest m n xs ys)
  · exact isB_eq (ne_zv n ys)
set_option maxHeartbeats 4000000 in
theorem zint_one  : Ctr Tryz.prog 91 [] (isZ 1) := by
  refine Ctr.intro Tryz.func91 rfl (by kernel_rfl) Tryz.ntmps91 rfl fun w0 F0 => ?_
  refine Tri.cv (Cv.wk .nil) ?_
  refine Tri.seq fun K1 hK1 => ?_
  refine Tri.region ?_
  refine Ops.alloc [isB false, SlM isU []] zero61 (fun _ _ => ⟨rfl, nilM _ _, trivial⟩) rfl fun b1 => ?_
  refine nl ?_
  refine At.thn (hK1 _ _ ?_); clear hK1
  refine Tri.seq fun K2 hK2 => ?_
  refine Tri.region ?_
  refine st (OK1.call (zint_Of) (.cons (Has.cI 1 rfl) .nil)) rfl ?_
  refine Ops.store (Has.t rfl) (Has.t rfl) (i := 0) rfl ty61 rfl rfl (Ss' := [_, _]) rfl (M' := [(some _, cellM [_, _])]) rfl ?_
  refine nl ?_
  refine At.thn (hK2 _ _ ?_); clear hK2
  refine Tri.ret ?_
  refine rt1 (.inl rfl) Tryz.results91 rfl (.cell rfl (i := 0) rfl ty61 rfl ?_ .nil)
  all_goals (rfl)
set_option maxHeartbeats 4000000 in
theorem zint_Euclid {m n : Bool} {xs ys : List Nat} (hx : (List.length (words (val xs))) < 4294700000) (hy : (List.length (words (val ys))) < 4294700000) : Ctr Tryz.prog 73 [Flat [isB m, isWords xs], Flat [isB n, isWords ys]] (isTup [isZ (zv m xs / zv n ys), isZ (if zv n ys = 0 then 0 else zv m xs % zv n ys), isB (decide (zv n ys ≠ 0))]) := by
  refine Ctr.intro Tryz.func73 rfl (by kernel_rfl) Tryz.ntmps73 rfl fun w0 F0 => ?_
  refine Tri.cv (Cv.wk (.cons (t := 0) (Has.t rfl) (.cons (t := 1) (Has.t rfl) .nil))) ?_
  refine Tri.fact (Has.okZ (Has.t (t := 0) rfl)) fun okz0 => ?_
  refine Tri.fact (Has.okZ (Has.t (t := 1) rfl)) fun okz1 => ?_
  have ha := nz_tdiv (zv m xs) (zv n ys)
  have hb := nz_if (zv m xs) (zv n ys)
  have hxx := zv_nw m xs
  have hyy := zv_nw n ys
  have h1 := nz_one
  refine Tri.seq fun K1 hK1 => ?_
  refine Tri.region ?_
  refine Ops.box (Has.t rfl) rfl fun b1 => ?_
  refine Ops.box (Has.t rfl) rfl fun b2 => ?_
  refine Ops.alloc [isB false, SlM isU []] zero61 (fun _ _ => ⟨rfl, nilM _ _, trivial⟩) rfl fun b3 => ?_
  refine Ops.alloc [isB false, SlM isU []] zero61 (fun _ _ => ⟨rfl, nilM _ _, trivial⟩) rfl fun b4 => ?_
  refine st (OK1.as (Has.cB false)) rfl ?_
  refine nl ?_
  refine At.thn (hK1 _ _ ?_); clear hK1
  refine Tri.seq fun K2 hK2 => ?_
  refine Tri.region ?_
  refine st (OK1.load (Has.t rfl) (i := 3) rfl ty61 rfl (Ss' := [_, _]) rfl) rfl ?_
  refine st (OK1.load (Has.t rfl) (i := 2) rfl ty61 rfl (Ss' := [_, _]) rfl) rfl ?_
  refine st (OK1.call (zint_Quo (by with_reducible assumption) (by with_reducible assumption)) (.cons (Has.t rfl) (.cons (Has.t rfl) .nil))) rfl ?_
  refine st (OK1.mv (Has.t rfl)) rfl ?_
  refine st (OK1.ext (Has.t rfl) rfl) rfl ?_
  refine st (OK1.ext (Has.t rfl) rfl) rfl ?_
  refine st (OK1.ext (Has.t rfl) rfl) rfl ?_
  refine Ops.alloc [isB false, SlM isU []] zero61 (fun _ _ => ⟨rfl, nilM _ _, trivial⟩) rfl fun b5 => ?_
  refine Ops.alloc [isB false, SlM isU []] zero61 (fun _ _ => ⟨rfl, nilM _ _, trivial⟩) rfl fun b6 => ?_
  refine Ops.store (Has.t rfl) (Has.t rfl) (i := 1) rfl ty61 rfl rfl (Ss' := [_, _]) rfl (M' := [_, (some _, cellM [_, _]), _, _, _, _]) rfl ?_
  refine Ops.store (Has.t rfl) (Has.t rfl) (i := 0) rfl ty61 rfl rfl (Ss' := [_, _]) rfl (M' := [(some _, cellM [_, _]), _, _, _, _, _]) rfl ?_
  refine st (OK1.as (Has.t rfl)) rfl ?_
  refine nl ?_
  refine At.thn (hK2 _ _ ?_); clear hK2
  refine Tri.cv (Cv.wk (.cons (t := 3) (Has.t rfl) (.cons (t := 4) (Has.t rfl) (.cons (t := 5) (Has.t rfl) (.cons (t := 6) (Has.t rfl) (.cons (t := 7) (Has.t rfl) (.cons (t := 8) (Has.t rfl) (.cons (t := 9) (Has.t rfl) .nil)))))))) ?_
  refine Tri.seq fun K3 hK3 => ?_
  refine Tri.block ?_
  refine Tri.seq fun K4 hK4 => ?_
  refine Tri.region ?_
  refine st (OK1.mv (Has.t rfl)) rfl ?_
  refine st (OK1.not (Has.t rfl)) rfl ?_
  refine st (OK1.mv (Has.t rfl)) rfl ?_
  refine stF rfl rfl (fun hg => have hg' := BP.t hg; OK1.load (Has.t rfl) (i := 0) rfl ty61 rfl (Ss' := [_, _]) rfl) rfl ?_
  refine stF rfl rfl (fun hg => have hg' := BP.t hg; OK1.eq (OK1.call (zint_Sign (by simp only [val_words, zv_nf]; omega)) (.cons (Has.g rfl hg) .nil)) (by simp only [val_words, zv_nf]; rfl)) rfl ?_
  refine stF rfl rfl (fun hg => have hg' := BP.t hg; OK1.geI (Has.g rfl hg) (Has.cI 0 rfl)) rfl ?_
  refine st (OK1.pickOr (Has.t rfl) (fun h => Has.g rfl (ng h))) rfl ?_
  refine st (OK1.as (Has.t rfl)) rfl ?_
  refine nl ?_
  refine At.thn (hK4 _ _ ?_); clear hK4
  refine Tri.cv (Cv.wk (.cons (t := 3) (Has.t rfl) (.cons (t := 4) (Has.t rfl) (.cons (t := 5) (Has.t rfl) (.cons (t := 6) (Has.t rfl) (.cons (t := 7) (Has.t rfl) (.cons (t := 8) (Has.t rfl) (.cons (t := 9) (Has.t rfl) (.cons (t := 17) (Has.t rfl) .nil))))))))) ?_
  refine Tri.cond (Has.t rfl) (fun hc1 => ?_) (fun hc1 => ?_)
  · have hc1 := BP.t hc1
    have HE := euc0 hc1
    refine Tri.seq fun K5 hK5 => ?_
    refine Tri.drh [true, true, false, false, true, true] (Ms := [_, _, _, _]) rfl ?_
    refine DrH.st (i := 0) [] rfl rfl rfl (by kernel_rfl) (OKG.o rfl (OK1.load (Has.t rfl) (i := 1) rfl ty61 rfl (Ss' := [_, _]) rfl)) ?_
    refine DrH.st (i := 1) [] rfl rfl rfl (by kernel_rfl) (OKG.o rfl (OK1.load (Has.t rfl) (i := 0) rfl ty61 rfl (Ss' := [_, _]) rfl)) ?_
    refine DrH.st (i := 2) [] rfl rfl rfl (by kernel_rfl) (OKG.o rfl (OK1.mv (Has.t rfl))) ?_
    refine DrH.mid2 (.cons_cons _ (.cons_cons _ (.cons _ (.cons _ (.cons_cons _ (.cons_cons _ .slnil)))))) ?_
    refine DrN2.st0 [25] rfl rfl (by kernel_rfl) (by kernel_rfl) (StS.store (Has.t rfl) (Has.t rfl) (i := 3) rfl ty61 rfl rfl (Ss' := [_, _]) rfl (M' := [_, _, _, (some _, cellM [_, _]), _, _]) rfl) (.cons_cons _ (.cons_cons _ (.cons _ (.cons _ (.cons_cons _ (.cons_cons _ .slnil)))))) ?_
    refine DrN2.st0 [26] rfl rfl (by kernel_rfl) (by kernel_rfl) (StS.store (Has.t rfl) (Has.t rfl) (i := 2) rfl ty61 rfl rfl (Ss' := [_, _]) rfl (M' := [_, _, (some _, cellM [_, _]), _, _, _]) rfl) (.cons_cons _ (.cons_cons _ (.cons _ (.cons _ (.cons_cons _ (.cons_cons _ .slnil)))))) ?_
    refine DrN2.fin0 (n := 5) mixed rfl (by kernel_rfl) (by kernel_rfl) (by kernel_rfl) ?_
    refine Ops.cv (Cv.wk (.cons (t := 3) (Has.t rfl) (.cons (t := 4) (Has.t rfl) (.cons (t := 5) (Has.t rfl) (.cons (t := 6) (Has.t rfl) (.cons (t := 7) (Has.t rfl) (.cons (t := 8) (Has.t rfl) (.cons (t := 27) (Has.t rfl) .nil)))))))) ?_
    refine st (OK1.as (Has.t rfl)) rfl ?_
    refine nl ?_
    refine At.thn (hK5 _ _ ?_); clear hK5
    refine Tri.ret ?_
    refine At.blr ?_
    refine At.thr ?_
    refine rtN (.inl rfl) Tryz.results73 rfl rfl (.cell rfl (i := 3) rfl ty61 rfl ?_ (.cell rfl (i := 2) rfl ty61 rfl ?_ (.tmp (Has.t' rfl ?_) .nil)))
    · exact isZ_eq HE.1
    · exact isZ_eq HE.2
    · rfl
  · have hc1 := BP.f hc1
    have HE := hc1
    refine Tri.seq fun K6 hK6 => ?_
    refine Tri.region ?_
    refine st (OK1.load (Has.t rfl) (i := 4) rfl ty61 rfl (Ss' := [_, _]) rfl) rfl ?_
    refine st (OK1.call (zint_Sign (by omega)) (.cons (Has.t rfl) .nil)) rfl ?_
    refine st (OK1.gtI (Has.t rfl) (Has.cI 0 rfl)) rfl ?_
    refine st (OK1.as (Has.t rfl)) rfl ?_
    refine nl ?_
    refine At.thn (hK6 _ _ ?_); clear hK6
    refine Tri.cv (Cv.wk (.cons (t := 3) (Has.t rfl) (.cons (t := 4) (Has.t rfl) (.cons (t := 5) (Has.t rfl) (.cons (t := 6) (Has.t rfl) (.cons (t := 7) (Has.t rfl) (.cons (t := 8) (Has.t rfl) (.cons (t := 28) (Has.t rfl) .nil)))))))) ?_
    refine Tri.cond (Has.t rfl) (fun hc2 => ?_) (fun hc2 => ?_)
    · have hc2 := BP.t hc2
      have HE2 := euc1 HE hc2
      refine Tri.seq fun K7 hK7 => ?_
      refine Tri.dr ?_
      refine DrG.st (i := 0) [] rfl rfl rfl (by kernel_rfl) (OKG.o rfl (OK1.load (Has.t rfl) (i := 1) rfl ty61 rfl (Ss' := [_, _]) rfl)) ?_
      refine DrG.st (i := 1) [] rfl rfl rfl (by kernel_rfl) (OKG.o rfl (OK1.call (zint_one) .nil)) ?_
      refine DrG.st (i := 2) [32, 33] rfl rfl rfl (by kernel_rfl) (OKG.o rfl (OK1.eq (OK1.call (zint_Sub (by simp only [val_words, zv_nf]; omega) (by simp only [val_words, zv_nf]; omega)) (.cons (Has.t rfl) (.cons (Has.t rfl) .nil))) (by simp only [val_words, zv_nf]; rfl))) ?_
      refine DrG.st (i := 3) [] rfl rfl rfl (by kernel_rfl) (OKG.o rfl (OK1.load (Has.t rfl) (i := 0) rfl ty61 rfl (Ss' := [_, _]) rfl)) ?_
      refine DrG.st (i := 4) [] rfl rfl rfl (by kernel_rfl) (OKG.o rfl (OK1.load (Has.t rfl) (i := 4) rfl ty61 rfl (Ss' := [_, _]) rfl)) ?_
      refine DrG.fin (n := 5) mixed (by kernel_rfl) (by kernel_rfl) (by kernel_rfl) ?_
      refine Ops.cv (Cv.wk (.cons (t := 3) (Has.t rfl) (.cons (t := 4) (Has.t rfl) (.cons (t := 5) (Has.t rfl) (.cons (t := 6) (Has.t rfl) (.cons (t := 7) (Has.t rfl) (.cons (t := 8) (Has.t rfl) (.cons (t := 34) (Has.t rfl) (.cons (t := 35) (Has.t rfl) (.cons (t := 36) (Has.t rfl) .nil)))))))))) ?_
      refine st (OK1.eq (OK1.call (zint_Add (by simp only [val_words, zv_nf]; omega) (by with_reducible assumption)) (.cons (Has.t rfl) (.cons (Has.t rfl) .nil))) (by simp only [val_words, zv_nf]; rfl)) rfl ?_
      refine Ops.store (Has.t rfl) (Has.t rfl) (i := 3) rfl ty61 rfl rfl (Ss' := [_, _]) rfl (M' := [_, _, _, (some _, cellM [_, _]), _, _]) rfl ?_
      refine Ops.store (Has.t rfl) (Has.t rfl) (i := 2) rfl ty61 rfl rfl (Ss' := [_, _]) rfl (M' := [_, _, (some _, cellM [_, _]), _, _, _]) rfl ?_
      refine st (OK1.as (Has.cB true)) rfl ?_
      refine nl ?_
      refine At.thn (hK7 _ _ ?_); clear hK7
      refine Tri.ret ?_
      refine At.blr ?_
      refine At.thr ?_
      refine rtN (.inl rfl) Tryz.results73 rfl rfl (.cell rfl (i := 3) rfl ty61 rfl ?_ (.cell rfl (i := 2) rfl ty61 rfl ?_ (.tmp (Has.t' rfl ?_) .nil)))
      · exact isZ_eq HE2.1
      · exact isZ_eq HE2.2
      · exact isB_eq (decide_eq_true HE.1).symm
    · have hc2 := BP.f hc2
      have HE2 := euc2 HE hc2
      refine Tri.skip ?_
      refine At.bln ?_
      refine At.thn (hK3 _ _ ?_); clear hK3
      refine Tri.seq fun K8 hK8 => ?_
      refine Tri.dr ?_
      refine DrG.st (i := 0) [] rfl rfl rfl (by kernel_rfl) (OKG.o rfl (OK1.load (Has.t rfl) (i := 1) rfl ty61 rfl (Ss' := [_, _]) rfl)) ?_
      refine DrG.st (i := 1) [] rfl rfl rfl (by kernel_rfl) (OKG.o rfl (OK1.call (zint_one) .nil)) ?_
      refine DrG.st (i := 2) [38, 39] rfl rfl rfl (by kernel_rfl) (OKG.o rfl (OK1.eq (OK1.call (zint_Add (by simp only [val_words, zv_nf]; omega) (by simp only [val_words, zv_nf]; omega)) (.cons (Has.t rfl) (.cons (Has.t rfl) .nil))) (by simp only [val_words, zv_nf]; rfl))) ?_
      refine DrG.st (i := 3) [] rfl rfl rfl (by kernel_rfl) (OKG.o rfl (OK1.load (Has.t rfl) (i := 0) rfl ty61 rfl (Ss' := [_, _]) rfl)) ?_
      refine DrG.st (i := 4) [] rfl rfl rfl (by kernel_rfl) (OKG.o rfl (OK1.load (Has.t rfl) (i := 4) rfl ty61 rfl (Ss' := [_, _]) rfl)) ?_
      refine DrG.fin (n := 5) mixed (by kernel_rfl) (by kernel_rfl) (by kernel_rfl) ?_
      refine Ops.cv (Cv.wk (.cons (t := 4) (Has.t rfl) (.cons (t := 5) (Has.t rfl) (.cons (t := 6) (Has.t rfl) (.cons (t := 40) (Has.t rfl) (.cons (t := 41) (Has.t rfl) (.cons (t := 42) (Has.t rfl) .nil))))))) ?_
      refine st (OK1.eq (OK1.call (zint_Sub (by simp only [val_words, zv_nf]; omega) (by with_reducible assumption)) (.cons (Has.t rfl) (.cons (Has.t rfl) .nil))) (by simp only [val_words, zv_nf]; rfl)) rfl ?_
      refine Ops.store (Has.t rfl) (Has.t rfl) (i := 3) rfl ty61 rfl rfl (Ss' := [_, _]) rfl (M' := [_, _, _, (some _, cellM [_, _]), _, _]) rfl ?_
      refine Ops.store (Has.t rfl) (Has.t rfl) (i := 2) rfl ty61 rfl rfl (Ss' := [_, _]) rfl (M' := [_, _, (some _, cellM [_, _]), _, _, _]) rfl ?_
      refine st (OK1.as (Has.cB true)) rfl ?_
      refine nl ?_
      refine At.thn (hK8 _ _ ?_); clear hK8
      refine Tri.ret ?_
      refine rtN (.inl rfl) Tryz.results73 rfl rfl (.cell rfl (i := 3) rfl ty61 rfl ?_ (.cell rfl (i := 2) rfl ty61 rfl ?_ (.tmp (Has.t' rfl ?_) .nil)))
      · exact isZ_eq HE2.1
      · exact isZ_eq HE2.2
      · exact isB_eq (decide_eq_true HE.1).symm
set_option maxHeartbeats 4000000 in
theorem zint_Exact {m n : Bool} {xs ys : List Nat} (hx : (List.length (words (val xs))) < 4294700000) (hy : (List.length (words (val ys))) < 4294700000) : Ctr Tryz.prog 41 [Flat [isB m, isWords xs], Flat [isB n, isWords ys]] (isTup [isZ (if zv n ys ≠ 0 ∧ (zv m xs).tmod (zv n ys) = 0 then (zv m xs).tdiv (zv n ys) else 0), isB (decide (zv n ys ≠ 0 ∧ (zv m xs).tmod (zv n ys) = 0))]) := by
  refine Ctr.intro Tryz.func41 rfl (by kernel_rfl) Tryz.ntmps41 rfl fun w0 F0 => ?_
  refine Tri.cv (Cv.wk (.cons (t := 0) (Has.t rfl) (.cons (t := 1) (Has.t rfl) .nil))) ?_
  refine Tri.fact (Has.okZ (Has.t (t := 0) rfl)) fun okz0 => ?_
  refine Tri.fact (Has.okZ (Has.t (t := 1) rfl)) fun okz1 => ?_
  have ha := nz_tdiv (zv m xs) (zv n ys)
  have hb := nz_if (zv m xs) (zv n ys)
  have hxx := zv_nw m xs
  have hyy := zv_nw n ys
  have h1 := nz_one
  refine Tri.seq fun K1 hK1 => ?_
  refine Tri.region ?_
  refine Ops.box (Has.t rfl) rfl fun b1 => ?_
  refine Ops.box (Has.t rfl) rfl fun b2 => ?_
  refine Ops.alloc [isB false, SlM isU []] zero61 (fun _ _ => ⟨rfl, nilM _ _, trivial⟩) rfl fun b3 => ?_
  refine st (OK1.as (Has.cB false)) rfl ?_
  refine nl ?_
  refine At.thn (hK1 _ _ ?_); clear hK1
  refine Tri.seq fun K2 hK2 => ?_
  refine Tri.region ?_
  refine st (OK1.load (Has.t rfl) (i := 2) rfl ty61 rfl (Ss' := [_, _]) rfl) rfl ?_
  refine st (OK1.load (Has.t rfl) (i := 1) rfl ty61 rfl (Ss' := [_, _]) rfl) rfl ?_
  refine st (OK1.call (zint_Quo (by with_reducible assumption) (by with_reducible assumption)) (.cons (Has.t rfl) (.cons (Has.t rfl) .nil))) rfl ?_
  refine st (OK1.mv (Has.t rfl)) rfl ?_
  refine st (OK1.ext (Has.t rfl) rfl) rfl ?_
  refine st (OK1.ext (Has.t rfl) rfl) rfl ?_
  refine st (OK1.ext (Has.t rfl) rfl) rfl ?_
  refine Ops.alloc [isB false, SlM isU []] zero61 (fun _ _ => ⟨rfl, nilM _ _, trivial⟩) rfl fun b4 => ?_
  refine Ops.alloc [isB false, SlM isU []] zero61 (fun _ _ => ⟨rfl, nilM _ _, trivial⟩) rfl fun b5 => ?_
  refine Ops.store (Has.t rfl) (Has.t rfl) (i := 1) rfl ty61 rfl rfl (Ss' := [_, _]) rfl (M' := [_, (some _, cellM [_, _]), _, _, _]) rfl ?_
  refine Ops.store (Has.t rfl) (Has.t rfl) (i := 0) rfl ty61 rfl rfl (Ss' := [_, _]) rfl (M' := [(some _, cellM [_, _]), _, _, _, _]) rfl ?_
  refine st (OK1.as (Has.t rfl)) rfl ?_
  refine nl ?_
  refine At.thn (hK2 _ _ ?_); clear hK2
  refine Tri.cv (Cv.wk (.cons (t := 4) (Has.t rfl) (.cons (t := 5) (Has.t rfl) (.cons (t := 6) (Has.t rfl) (.cons (t := 7) (Has.t rfl) (.cons (t := 8) (Has.t rfl) .nil)))))) ?_
  refine Tri.seq fun K3 hK3 => ?_
  refine Tri.seq fun K4 hK4 => ?_
  refine Tri.region ?_
  refine st (OK1.mv (Has.t rfl)) rfl ?_
  refine st (OK1.not (Has.t rfl)) rfl ?_
  refine st (OK1.mv (Has.t rfl)) rfl ?_
  refine stF rfl rfl (fun hg => have hg' := BP.t hg; OK1.load (Has.t rfl) (i := 0) rfl ty61 rfl (Ss' := [_, _]) rfl) rfl ?_
  refine stF rfl rfl (fun hg => have hg' := BP.t hg; OK1.eq (OK1.call (zint_Sign (by simp only [val_words, zv_nf]; omega)) (.cons (Has.g rfl hg) .nil)) (by simp only [val_words, zv_nf]; rfl)) rfl ?_
  refine stF rfl rfl (fun hg => have hg' := BP.t hg; OK1.neI (Has.g rfl hg) (Has.cI 0 rfl)) rfl ?_
  refine st (OK1.pickOr (Has.t rfl) (fun h => Has.g rfl (ng h))) rfl ?_
  refine nl ?_
  refine At.thn (hK4 _ _ ?_); clear hK4
  refine Tri.cv (Cv.wk (.cons (t := 4) (Has.t rfl) (.cons (t := 5) (Has.t rfl) (.cons (t := 6) (Has.t rfl) (.cons (t := 22) (Has.t rfl) .nil))))) ?_
  refine Tri.cond (Has.t rfl) (fun hc1 => ?_) (fun hc1 => ?_)
  · have hc1 := BP.t hc1
    have HE := ex_no hc1
    refine Tri.seq fun K5 hK5 => ?_
    refine Tri.region ?_
    refine st (OK1.eq (OK1.build [isB false, SlM isU []] pl61 zero61 (fun _ _ => ⟨rfl, nilM _ _, trivial⟩) .nil (Z'' := [_, _]) rfl) (isZ0)) rfl ?_
    refine Ops.store (Has.t rfl) (Has.t rfl) (i := 2) rfl ty61 rfl rfl (Ss' := [_, _]) rfl (M' := [_, _, (some _, cellM [_, _]), _, _]) rfl ?_
    refine st (OK1.as (Has.cB false)) rfl ?_
    refine nl ?_
    refine At.thn (hK5 _ _ ?_); clear hK5
    refine Tri.ret ?_
    refine At.thr ?_
    refine rtN (.inl rfl) Tryz.results41 rfl rfl (.cell rfl (i := 2) rfl ty61 rfl ?_ (.tmp (Has.t' rfl ?_) .nil))
    · exact isZ_eq (if_neg HE).symm
    · exact isB_eq (decide_eq_false HE).symm
  · have hc1 := BP.f hc1
    have HE := ex_yes hc1
    refine Tri.skip ?_
    refine At.thn (hK3 _ _ ?_); clear hK3
    refine Tri.seq fun K6 hK6 => ?_
    refine Tri.region ?_
    refine st (OK1.load (Has.t rfl) (i := 1) rfl ty61 rfl (Ss' := [_, _]) rfl) rfl ?_
    refine Ops.store (Has.t rfl) (Has.t rfl) (i := 2) rfl ty61 rfl rfl (Ss' := [_, _]) rfl (M' := [_, _, (some _, cellM [_, _]), _, _]) rfl ?_
    refine st (OK1.as (Has.cB true)) rfl ?_
    refine nl ?_
    refine At.thn (hK6 _ _ ?_); clear hK6
    refine Tri.ret ?_
    refine rtN (.inl rfl) Tryz.results41 rfl rfl (.cell rfl (i := 2) rfl ty61 rfl ?_ (.tmp (Has.t' rfl ?_) .nil))
    · exact isZ_eq (if_pos HE).symm
    · exact isB_eq (decide_eq_true HE).symm
end Go.Proofs.YtkgipdidomikbaaGreat
/- Contracts: polynomials over the whole numbers: their lists. -/
namespace Go.Proofs.YtkgipdidomikbaaGreat
open Go.En Go.RowKit
set_option linter.unusedVariables false
set_option maxRecDepth 10000
open Go.Nt
open Go.Pz
set_option maxHeartbeats 4000000 in
theorem zpoly_at {xs : List (Bool × List Nat)} {i : Nat} : Ctr Tryz.prog 85 [SlK 2 zc xs, isI (i : Int)] (Flat (zc (xs.getD i (false, [])))) := by
  refine Ctr.intro Tryz.func85 rfl (by kernel_rfl) Tryz.ntmps85 rfl fun w0 F0 => ?_
  refine Tri.cv (Cv.wk (.cons (t := 0) (Has.t rfl) (.cons (t := 1) (Has.t rfl) .nil))) ?_
  refine Tri.fact (Has.lenLt (Has.t (t := 0) rfl)) fun lt0 => ?_
  refine Tri.fact (Has.rngI (Has.t (t := 1) rfl)) fun lt1 => ?_
  refine Tri.seq fun K1 hK1 => ?_
  refine Tri.region ?_
  refine Ops.alloc [isB false, SlM isU []] zero61 (fun _ _ => ⟨rfl, nilM _ _, trivial⟩) rfl fun b1 => ?_
  refine nl ?_
  refine At.thn (hK1 _ _ ?_); clear hK1
  refine Tri.seq fun K2 hK2 => ?_
  refine Tri.seq fun K3 hK3 => ?_
  refine Tri.region ?_
  refine st (OK1.mv (Has.t rfl)) rfl ?_
  refine st (OK1.mv (Has.t rfl)) rfl ?_
  refine st (OK1.len sl32 (Has.t rfl)) rfl ?_
  refine st (OK1.ltI (Has.t rfl) (Has.t rfl)) rfl ?_
  refine nl ?_
  refine At.thn (hK3 _ _ ?_); clear hK3
  refine Tri.cond (Has.t rfl) (fun hc1 => ?_) (fun hc1 => ?_)
  · have hc1 := BP.t hc1
    refine Tri.seq fun K4 hK4 => ?_
    refine Tri.region ?_
    refine st (OK1.mv (Has.t rfl)) rfl ?_
    refine st (OK1.mv (Has.t rfl)) rfl ?_
    refine st (OK1.ixK sl32 ty61 (Has.t rfl) (Has.t rfl) zc_len ⟨by omega, by omega⟩ (getD_some (d := (false, [])) (by omega))) rfl ?_
    refine st (OK1.loadP (Has.t rfl) ty61 rfl (Ss' := [_, _]) rfl) rfl ?_
    refine Ops.store (Has.t rfl) (Has.t rfl) (i := 0) rfl ty61 rfl rfl (Ss' := [_, _]) rfl (M' := [(some _, cellM [_, _])]) rfl ?_
    refine nl ?_
    refine At.thn (hK4 _ _ ?_); clear hK4
    refine Tri.cv (Cv.wk (.cons (t := 4) (Has.t rfl) .nil)) ?_
    refine Tri.ret ?_
    refine At.thr ?_
    refine rt1 (.inl rfl) Tryz.results85 rfl (.cell rfl (i := 0) rfl ty61 rfl ?_ .nil)
    all_goals (rfl)
  · have hc1 := BP.f hc1
    refine Tri.skip ?_
    refine At.thn (hK2 _ _ ?_); clear hK2
    refine Tri.cv (Cv.wk (.cons (t := 4) (Has.t rfl) .nil)) ?_
    refine Tri.seq fun K5 hK5 => ?_
    refine Tri.region ?_
    refine st (OK1.build [isB false, SlM isU []] pl61 zero61 (fun _ _ => ⟨rfl, nilM _ _, trivial⟩) .nil (Z'' := [_, _]) rfl) rfl ?_
    refine Ops.store (Has.t rfl) (Has.t rfl) (i := 0) rfl ty61 rfl rfl (Ss' := [_, _]) rfl (M' := [(some _, cellM [_, _])]) rfl ?_
    refine nl ?_
    refine At.thn (hK5 _ _ ?_); clear hK5
    refine Tri.ret ?_
    refine rt1 (.inl rfl) Tryz.results85 rfl (.cell rfl (i := 0) rfl ty61 rfl ?_ .nil)
    all_goals (exact congrArg Flat (show zc (false, []) = _ by rw [List.getD, List.getElem?_eq_none (by omega)]; rfl))
set_option maxHeartbeats 4000000 in
theorem zpoly_Norm {xs : List (Bool × List Nat)} {K : Nat} (hx : Bd (vals xs) K) (hK : K ≤ 4000000000) (hn : xs.length ≤ 1000000) : Ctr Tryz.prog 36 [SlK 2 zc xs] (isP (pnorm (vals xs))) := by
  refine Ctr.intro Tryz.func36 rfl (by kernel_rfl) Tryz.ntmps36 rfl fun w0 F0 => ?_
  refine Tri.cv (Cv.wk (.cons (t := 0) (Has.t rfl) .nil)) ?_
  refine Tri.fact (Has.lenLt (Has.t (t := 0) rfl)) fun lt0 => ?_
  refine Tri.seq fun K1 hK1 => ?_
  refine Tri.region ?_
  refine st (OK1.as (Has.cWK (k := 2) (fk := zc))) rfl ?_
  refine nl ?_
  refine At.thn (hK1 _ _ ?_); clear hK1
  refine Tri.seq fun K2 hK2 => ?_
  refine Tri.region ?_
  refine st (OK1.mv (Has.t rfl)) rfl ?_
  refine st (OK1.len sl32 (Has.t rfl)) rfl ?_
  refine st (OK1.as (Has.t rfl)) rfl ?_
  refine nl ?_
  refine At.thn (hK2 _ _ ?_); clear hK2
  refine Tri.seq fun K3 hK3 => ?_
  refine Tri.block ?_
  refine Tri.loopF [0, 2] (fun (z : { n : Nat // n ≤ xs.length ∧ ∀ i, n ≤ i → cf (vals xs) i = 0 }) => match z with | ⟨n, hI⟩ => [(3, isI (n : Int))]) (fun M => fun (z : { n : Nat // n ≤ xs.length ∧ ∀ i, n ≤ i → cf (vals xs) i = 0 }) => match z with | ⟨n, hI⟩ => M) (fun (z : { n : Nat // n ≤ xs.length ∧ ∀ i, n ≤ i → cf (vals xs) i = 0 }) => match z with | ⟨n, hI⟩ => n) (⟨xs.length, Nat.le_refl _, fun i hi => cf_high (by rw [vals_len]; exact hi)⟩) (Cv.mem (.cons (t := 3) (Has.t' rfl ?_) (.cons (t := 0) (Has.t rfl) (.cons (t := 2) (Has.t rfl) .nil))) ?_) ?_
  · rfl
  · rfl
  rintro ⟨n, hk, hz⟩ K4 hK4
  refine Tri.cv (Cv.wk (.cons (t := 3) (Has.t rfl) (.cons (t := 0) (Has.t rfl) (.cons (t := 2) (Has.t rfl) .nil)))) ?_
  have ek : ((n : Int) - 1).toNat = n - 1 := by omega
  refine Tri.seq fun K5 hK5 => ?_
  refine Tri.seq fun K6 hK6 => ?_
  refine Tri.region ?_
  refine st (OK1.mv (Has.t rfl)) rfl ?_
  refine st (OK1.gtI (Has.t rfl) (Has.cI 0 rfl)) rfl ?_
  refine st (OK1.mv (Has.t rfl)) rfl ?_
  refine stT rfl rfl (fun hg => have hg' := BP.t hg; OK1.mv (Has.t rfl)) rfl ?_
  refine stT rfl rfl (fun hg => have hg' := BP.t hg; OK1.mv (Has.t rfl)) rfl ?_
  refine stT rfl rfl (fun hg => have hg' := BP.t hg; OK1.subI (Has.g rfl hg) (Has.cI 1 rfl) (by omega) (by omega)) rfl ?_
  refine stT rfl rfl (fun hg => have hg' := BP.t hg; OK1.ixK sl32 ty61 (Has.g rfl hg) (Has.g rfl hg) zc_len ⟨by omega, by omega⟩ (getD_some (d := (false, [])) (by omega))) rfl ?_
  refine stT rfl rfl (fun hg => have hg' := BP.t hg; OK1.loadP (Has.g rfl hg) ty61 rfl (Ss' := [_, _]) rfl) rfl ?_
  refine stT rfl rfl (fun hg => have hg' := BP.t hg; OK1.call (zint_Sign (by have := hx.raw ((n : Int) - 1).toNat; omega)) (.cons (Has.g rfl hg) .nil)) rfl ?_
  refine stT rfl rfl (fun hg => have hg' := BP.t hg; OK1.eqI (Has.g rfl hg) (Has.cI 0 rfl)) rfl ?_
  refine st (OK1.pickAnd (Has.t rfl) (fun h => Has.g rfl h)) rfl ?_
  refine nl ?_
  refine At.thn (hK6 _ _ ?_); clear hK6
  refine Tri.cond (Has.t rfl) (fun hc1 => ?_) (fun hc1 => ?_)
  · have hc1 := BP.t hc1
    have HA1 := hc1
    refine Tri.skip ?_
    refine At.thn (hK5 _ _ ?_); clear hK5
    refine Tri.block ?_
    refine Tri.region ?_
    refine st (OK1.mv (Has.t rfl)) rfl ?_
    refine st (OK1.subI (Has.t rfl) (Has.cI 1 rfl) (by omega) (by omega)) rfl ?_
    refine st (OK1.as (Has.t rfl)) rfl ?_
    refine nl ?_
    refine At.bln ?_
    refine At.thn ?_
    refine hK4 (⟨n - 1, by omega, fun i hi => by rcases Nat.lt_or_ge i n with h | h; (have e : i = n - 1 := by omega); (have := (sgn_eq0 _).1 HA1.2; rw [← cf_vals, ek] at this; rw [e]; exact this); exact hz i h⟩) _ _ ?_ (Cv.mem (.cons (t := 3) (Has.t' rfl ?_) (.cons (t := 0) (Has.t rfl) (.cons (t := 2) (Has.t rfl) .nil))) ?_)
    · show n - 1 < n; omega
    · exact isI_eq (by omega)
    · rfl
  · have hc1 := BP.f hc1
    have HA2 := hc1
    refine Tri.exit ?_
    refine At.the ?_
    refine At.the ?_
    refine At.blh ?_
    refine At.thn (hK3 _ _ ?_); clear hK3
    refine Tri.cv (Cv.wk (.cons (t := 0) (Has.t rfl) (.cons (t := 2) (Has.t rfl) (.cons (t := 3) (Has.t rfl) .nil)))) ?_
    refine Tri.seq fun K7 hK7 => ?_
    refine Tri.region ?_
    refine Ops.cv (Cv.grow0K (α := Bool × List Nat) zc) ?_
    refine st (OK1.as (Has.cGr (α := Bool × List Nat))) rfl ?_
    refine nl ?_
    refine At.thn (hK7 _ _ ?_); clear hK7
    refine Tri.seq fun K8 hK8 => ?_
    refine Tri.seq fun K9 hK9 => ?_
    refine Tri.region ?_
    refine st (OK1.mv (Has.t rfl)) rfl ?_
    refine st (OK1.mv (Has.t rfl)) rfl ?_
    refine st (OK1.slHK sl32 ty61 zc_len (Has.t rfl) (Has.t rfl) ⟨by omega, by omega⟩) rfl ?_
    refine st (OK1.len sl32 (Has.t rfl)) rfl ?_
    refine st (OK1.mv (Has.cI 0 rfl)) rfl ?_
    refine nl ?_
    refine At.thn (hK9 _ _ ?_); clear hK9
    refine Tri.block ?_
    refine Tri.loopF [2, 24, 25] (fun (z : { z : Nat × Gr (Bool × List Nat) // z.1 ≤ n }) => match z with | ⟨(i, g), hI⟩ => [(26, isI (i : Int)), (4, isGr g (((vals xs).take i).map nz).length)]) (fun M => fun (z : { z : Nat × Gr (Bool × List Nat) // z.1 ≤ n }) => match z with | ⟨(i, g), hI⟩ => [grMK zc g (((vals xs).take i).map nz)]) (fun (z : { z : Nat × Gr (Bool × List Nat) // z.1 ≤ n }) => match z with | ⟨(i, g), hI⟩ => n - i) (⟨(0, Gr.nil), Nat.zero_le _⟩) (Cv.mem (.cons (t := 26) (Has.t' rfl ?_) (.cons (t := 4) (Has.t' rfl ?_) (.cons (t := 2) (Has.t rfl) (.cons (t := 24) (Has.t rfl) (.cons (t := 25) (Has.t rfl) .nil))))) ?_) ?_
    · rfl
    · rfl
    · rfl
    rintro ⟨⟨i, g⟩, hI⟩ K10 hK10
    refine Tri.cv (Cv.wk (.cons (t := 26) (Has.t rfl) (.cons (t := 4) (Has.t rfl) (.cons (t := 2) (Has.t rfl) (.cons (t := 24) (Has.t rfl) (.cons (t := 25) (Has.t rfl) .nil)))))) ?_
    refine Tri.memEq (M' := [grMK zc g (((vals xs).take i).map nz)]) rfl ?_
    simp only [] at hI
    have htl : (xs.take ((n : Int)).toNat).length = n := by rw [Int.toNat_natCast, List.length_take]; omega
    have hvl := vals_len xs
    have hyl : (((vals xs).take i).map nz).length = i := by rw [List.length_map, List.length_take]; omega
    refine Tri.seq fun K11 hK11 => ?_
    refine Tri.region ?_
    refine st (OK1.ltI (Has.t rfl) (Has.t rfl)) rfl ?_
    refine nl ?_
    refine At.thn (hK11 _ _ ?_); clear hK11
    refine Tri.seq fun K12 hK12 => ?_
    refine Tri.cond (Has.t rfl) (fun hc2 => ?_) (fun hc2 => ?_)
    · have hc2 := BP.t hc2
      refine Tri.skip ?_
      refine At.thn (hK12 _ _ ?_); clear hK12
      refine Tri.seq fun K13 hK13 => ?_
      refine Tri.block ?_
      refine Tri.seq fun K14 hK14 => ?_
      refine Tri.region ?_
      refine st (OK1.ixK sl32 ty61 (Has.t rfl) (Has.t rfl) zc_len ⟨by omega, by omega⟩ (getD_some (d := (false, [])) (by omega))) rfl ?_
      refine st (OK1.loadP (Has.t rfl) ty61 rfl (Ss' := [_, _]) rfl) rfl ?_
      refine Ops.alloc [isB false, SlM isU []] zero61 (fun _ _ => ⟨rfl, nilM _ _, trivial⟩) rfl fun b1 => ?_
      refine Ops.store (Has.t rfl) (Has.t rfl) (i := 0) rfl ty61 rfl rfl (Ss' := [_, _]) rfl (M' := [(some _, cellM [_, _]), _]) rfl ?_
      refine nl ?_
      refine At.thn (hK14 _ _ ?_); clear hK14
      refine Tri.region ?_
      refine st (OK1.mv (Has.t rfl)) rfl ?_
      refine st (OK1.fieldAddr (Has.t rfl) fld61_1 ty59) rfl ?_
      refine st (OK1.load1 (Has.t rfl) (i := 0) rfl ty59 rfl) rfl ?_
      refine st (OK1.fieldAddr (Has.t rfl) fld61_0 ty4) rfl ?_
      refine st (OK1.load1 (Has.t rfl) (i := 0) rfl ty4 rfl) rfl ?_
      refine st (OK1.eq (OK1.call (zint_From (by simp only [Int.toNat_natCast]; rw [getD_takeZ (by omega)]; have := hx.raw i; omega)) (.cons (Has.t rfl) (.cons (Has.t rfl) .nil))) ((show isZ _ = Flat (zc (nz (cf (vals xs) i))) from isZ_eq (by rw [cf_vals]; simp only [Int.toNat_natCast]; rw [getD_takeZ (by omega)])))) rfl ?_
      refine st (OK1.buildS [isB false, SlM isU []] sl32 ty61 zero61 (fun _ _ => ⟨rfl, nilM _ _, trivial⟩) rfl rfl (.cons (Has.t rfl) rfl rfl rfl .nil) rfl (S := SlK 2 zc [nz (cf (vals xs) i)]) rfl) rfl ?_
      refine Ops.appendGK (fk := zc) (u := (false, [])) zc_len (by decide) (fun _ => inferInstance) sl32 ty61 zero61 (fun _ _ => ⟨rfl, nilM _ _, trivial⟩) by61 (Has.t rfl) (i := 1) rfl (Has.t rfl) (by rw [hyl]; show i + 1 ≤ _; omega) (by simp) rfl fun gr1 => ?_
      refine Ops.memEq (M' := [_, grMK _ _ _]) rfl ?_
      refine st (OK1.as (Has.t rfl)) rfl ?_
      refine nl ?_
      refine At.bln ?_
      refine At.thn (hK13 _ _ ?_); clear hK13
      refine Tri.region ?_
      refine st (OK1.addI (Has.t rfl) (Has.cI 1 rfl) (by omega) (by omega)) rfl ?_
      refine st (OK1.mv (Has.t rfl)) rfl ?_
      refine nl ?_
      refine At.thn ?_
      refine hK10 (⟨(i + 1, gr1), by show i + 1 ≤ _; omega⟩) _ _ ?_ (Cv.trans (Cv.drop ((.cons _ (.cons_cons _ .slnil)))) (Cv.mem (.cons (t := 26) (Has.t' rfl ?_) (.cons (t := 4) (Has.t' rfl ?_) (.cons (t := 2) (Has.t rfl) (.cons (t := 24) (Has.t rfl) (.cons (t := 25) (Has.t rfl) .nil))))) ?_))
      · show n - (i + 1) < n - i; omega
      · exact isI_eq (by omega)
      · exact isGr_eq (by rw [← take_map_succ _ _ (by omega), List.length_append])
      · exact grMK_eq (take_map_succ _ _ (by omega))
    · have hc2 := BP.f hc2
      refine Tri.exit ?_
      refine At.the ?_
      refine At.the ?_
      refine At.blh ?_
      refine At.thn (hK8 _ _ ?_); clear hK8
      refine Tri.seq fun K15 hK15 => ?_
      refine Tri.cv (Cv.freezeGK (t := 4) (i := 0) (ys := ((vals xs).take i).map nz) zc_len rfl rfl rfl) ?_
      refine Tri.memEq (M' := []) rfl ?_
      refine Tri.cv (Cv.wk (.cons (t := 2) (Has.t rfl) (.cons (t := 24) (Has.t rfl) (.cons (t := 25) (Has.t rfl) (.cons (t := 26) (Has.t rfl) (.cons (t := 4) (Has.t rfl) (.cons (t := 27) (Has.t rfl) .nil))))))) ?_
      refine Tri.region ?_
      refine st (OK1.mv (Has.t rfl)) rfl ?_
      refine st (OK1.as (Has.t rfl)) rfl ?_
      refine nl ?_
      refine At.thn (hK15 _ _ ?_); clear hK15
      refine Tri.cv (Cv.wk (.cons (t := 2) (Has.t rfl) .nil)) ?_
      refine Tri.ret ?_
      refine rt1 (.inl rfl) Tryz.results36 rfl (.tmp (Has.t' rfl ?_) .nil)
      all_goals (exact isP_eq (by obtain rfl : i = n := (by omega); exact take_norm (by rcases HA2 with h | h; left; omega; right; rw [cf_vals, ← ek]; exact fun e => h ((sgn_eq0 _).2 e)) hz))
end Go.Proofs.YtkgipdidomikbaaGreat
/- Contracts: sums, differences, multiples of polynomials. -/
namespace Go.Proofs.YtkgipdidomikbaaGreat
open Go.En Go.RowKit
set_option linter.unusedVariables false
set_option maxRecDepth 10000
open Go.Nt
open Go.Pz
set_option maxHeartbeats 4000000 in
theorem zpoly_both {op : Int → Int → Int} {xs ys : List (Bool × List Nat)} {K L : Nat} (hx : Bd (vals xs) K) (hy : Bd (vals ys) K) (hop : ∀ i, (List.length (words (op (cf (vals xs) i) (cf (vals ys) i)).natAbs)) ≤ L) (hL : L ≤ 4000000000) (h0 : op 0 0 = 0) (hn : xs.length ≤ 1000000) (hm : ys.length ≤ 1000000) : Ctr Tryz.prog 62 [SlK 2 zc xs, SlK 2 zc ys, isOp Tryz.prog K op] (isP (both op (vals xs) (vals ys))) := by
  refine Ctr.intro Tryz.func62 rfl (by kernel_rfl) Tryz.ntmps62 rfl fun w0 F0 => ?_
  refine Tri.cv (Cv.wk (.cons (t := 0) (Has.t rfl) (.cons (t := 1) (Has.t rfl) (.cons (t := 2) (Has.t rfl) .nil)))) ?_
  refine Tri.fact (Has.lenLt (Has.t (t := 0) rfl)) fun lt0 => ?_
  refine Tri.fact (Has.lenLt (Has.t (t := 1) rfl)) fun lt1 => ?_
  obtain ⟨F, hF⟩ : ∃ F, F = (List.range (max xs.length ys.length)).map fun i => op (cf (vals xs) i) (cf (vals ys) i) := ⟨_, rfl⟩
  have hFl : F.length = max xs.length ys.length := by rw [hF, List.length_map, List.length_range]
  have hFb : Bd F L := fun i => by
    rw [hF, cf_tab]
    split
    · exact hop i
    · rw [Int.natAbs_zero, words_zero]; exact Nat.zero_le _
  refine Tri.seq fun K1 hK1 => ?_
  refine Tri.region ?_
  refine st (OK1.as (Has.cWK (k := 2) (fk := zc))) rfl ?_
  refine nl ?_
  refine At.thn (hK1 _ _ ?_); clear hK1
  refine Tri.seq fun K2 hK2 => ?_
  refine Tri.region ?_
  refine st (OK1.mv (Has.t rfl)) rfl ?_
  refine st (OK1.len sl32 (Has.t rfl)) rfl ?_
  refine st (OK1.mv (Has.t rfl)) rfl ?_
  refine st (OK1.len sl32 (Has.t rfl)) rfl ?_
  refine st (OK1.eq (OK1.maxI (Has.t rfl) (Has.t rfl)) ((show isI _ = isI ((max xs.length ys.length : Nat) : Int) from isI_eq (by omega)))) rfl ?_
  refine Ops.makeK (fk := zc) (u := (false, [])) (n := max xs.length ys.length) (c := max xs.length ys.length) sl32 ty61 zero61 (fun _ _ => ⟨rfl, nilM _ _, trivial⟩) zc_len by61 (Has.t' rfl rfl) (Has.t' rfl rfl) ⟨by omega, by omega⟩ rfl fun b1 => ?_
  refine st (OK1.as (Has.t rfl)) rfl ?_
  refine nl ?_
  refine At.thn (hK2 _ _ ?_); clear hK2
  refine Tri.cv (Cv.wk (.cons (t := 0) (Has.t rfl) (.cons (t := 1) (Has.t rfl) (.cons (t := 2) (Has.t rfl) (.cons (t := 6) (Has.t rfl) (.cons (t := 7) (Has.t rfl) .nil)))))) ?_
  refine Tri.seq fun K3 hK3 => ?_
  refine Tri.seq fun K4 hK4 => ?_
  refine Tri.region ?_
  refine st (OK1.mv (Has.t rfl)) rfl ?_
  refine st (OK1.len sl32 (Has.t rfl)) rfl ?_
  refine st (OK1.mv (Has.cI 0 rfl)) rfl ?_
  refine nl ?_
  refine At.thn (hK4 _ _ ?_); clear hK4
  refine Tri.block ?_
  refine Tri.loopF [0, 1, 2, 6, 7, 16] (fun (z : { i : Nat // i ≤ max xs.length ys.length }) => match z with | ⟨i, hi⟩ => [(17, isI (i : Int))]) (fun M => fun (z : { i : Nat // i ≤ max xs.length ys.length }) => match z with | ⟨i, hi⟩ => [(some b1, cellM ((fill (F.map nz) i (false, [])).flatMap zc))]) (fun (z : { i : Nat // i ≤ max xs.length ys.length }) => match z with | ⟨i, hi⟩ => max xs.length ys.length - i) (⟨0, Nat.zero_le _⟩) (Cv.mem (.cons (t := 17) (Has.t' rfl ?_) (.cons (t := 0) (Has.t rfl) (.cons (t := 1) (Has.t rfl) (.cons (t := 2) (Has.t rfl) (.cons (t := 6) (Has.t rfl) (.cons (t := 7) (Has.t rfl) (.cons (t := 16) (Has.t rfl) .nil))))))) ?_) ?_
  · rfl
  · exact memZ_eq (by rw [fill_zero, List.length_map, hFl])
  rintro ⟨i, hi⟩ K5 hK5
  refine Tri.cv (Cv.wk (.cons (t := 17) (Has.t rfl) (.cons (t := 0) (Has.t rfl) (.cons (t := 1) (Has.t rfl) (.cons (t := 2) (Has.t rfl) (.cons (t := 6) (Has.t rfl) (.cons (t := 7) (Has.t rfl) (.cons (t := 16) (Has.t rfl) .nil)))))))) ?_
  refine Tri.memEq (M' := [(some b1, cellM ((fill (F.map nz) i (false, [])).flatMap zc))]) rfl ?_
  refine Tri.seq fun K6 hK6 => ?_
  refine Tri.region ?_
  refine st (OK1.ltI (Has.t rfl) (Has.t rfl)) rfl ?_
  refine nl ?_
  refine At.thn (hK6 _ _ ?_); clear hK6
  refine Tri.seq fun K7 hK7 => ?_
  refine Tri.cond (Has.t rfl) (fun hc1 => ?_) (fun hc1 => ?_)
  · have hc1 := BP.t hc1
    refine Tri.skip ?_
    refine At.thn (hK7 _ _ ?_); clear hK7
    refine Tri.seq fun K8 hK8 => ?_
    refine Tri.block ?_
    refine Tri.seq fun K9 hK9 => ?_
    refine Tri.region ?_
    refine st (OK1.mv (Has.t rfl)) rfl ?_
    refine st (OK1.as (Has.t rfl)) rfl ?_
    refine nl ?_
    refine At.thn (hK9 _ _ ?_); clear hK9
    refine Tri.region ?_
    refine st (OK1.mv (Has.t rfl)) rfl ?_
    refine st (OK1.mv (Has.t rfl)) rfl ?_
    refine st (OK1.mv (Has.t rfl)) rfl ?_
    refine st (OK1.mv (Has.t rfl)) rfl ?_
    refine st (OK1.mv (Has.t rfl)) rfl ?_
    refine st (OK1.call (zpoly_at) (.cons (Has.t rfl) (.cons (Has.t rfl) .nil))) rfl ?_
    refine st (OK1.mv (Has.t rfl)) rfl ?_
    refine st (OK1.mv (Has.t rfl)) rfl ?_
    refine st (OK1.call (zpoly_at) (.cons (Has.t rfl) (.cons (Has.t rfl) .nil))) rfl ?_
    refine st (OK1.eq (OK1.callV ⟨(xs.getD i (false, []), ys.getD i (false, [])), hx.raw i, hy.raw i⟩ (Has.t rfl) (.cons (Has.t rfl) (.cons (Has.t rfl) .nil))) ((show isZ _ = Flat (zc (nz (op (cf (vals xs) i) (cf (vals ys) i)))) from isZ_eq (by rw [cf_vals, cf_vals])))) rfl ?_
    refine st (OK1.eq (OK1.ixWin sl32 ty61 (Has.t rfl) (Has.t rfl) ⟨by omega, by omega⟩) (isPtr_eq (by exact ixo2))) rfl ?_
    refine Ops.storeK (z := nz (op (cf (vals xs) i) (cf (vals ys) i))) zc_len (Has.t rfl) (Has.t rfl) (i := 0) rfl ty61 (by rw [fill_len _ _ _ (by rw [List.length_map]; omega), List.length_map]; omega) (M' := [(_, _)]) rfl ?_
    refine nl ?_
    refine At.bln ?_
    refine At.thn (hK8 _ _ ?_); clear hK8
    refine Tri.region ?_
    refine st (OK1.addI (Has.t rfl) (Has.cI 1 rfl) (by omega) (by omega)) rfl ?_
    refine st (OK1.mv (Has.t rfl)) rfl ?_
    refine nl ?_
    refine At.thn ?_
    refine hK5 (⟨i + 1, by omega⟩) _ _ ?_ (Cv.mem (.cons (t := 17) (Has.t' rfl ?_) (.cons (t := 0) (Has.t rfl) (.cons (t := 1) (Has.t rfl) (.cons (t := 2) (Has.t rfl) (.cons (t := 6) (Has.t rfl) (.cons (t := 7) (Has.t rfl) (.cons (t := 16) (Has.t rfl) .nil))))))) ?_)
    · show max xs.length ys.length - (i + 1) < max xs.length ys.length - i; omega
    · exact isI_eq (by omega)
    · exact memF_eq (by rw [List.getElem?_map, hF, List.getElem?_map, List.getElem?_range (by omega)]; rfl)
  · have hc1 := BP.f hc1
    refine Tri.exit ?_
    refine At.the ?_
    refine At.the ?_
    refine At.blh ?_
    refine At.thn (hK3 _ _ ?_); clear hK3
    refine Tri.cv (Cv.wk (.cons (t := 6) (Has.t rfl) (.cons (t := 7) (Has.t rfl) .nil))) ?_
    refine Tri.seq fun K10 hK10 => ?_
    refine Tri.cv (Cv.freezeK (t := 7) (i := 0) (ys := F.map nz) zc_len rfl rfl rfl (by rw [fill_len _ _ _ (by rw [List.length_map]; omega), List.length_map]; omega) (fill_done (by rw [List.length_map]; omega) (by rw [List.length_map, hFl]))) ?_
    refine Tri.memEq (M' := []) rfl ?_
    refine Tri.cv (Cv.wk (.cons (t := 6) (Has.t rfl) (.cons (t := 7) (Has.t rfl) .nil))) ?_
    refine Tri.region ?_
    refine st (OK1.mv (Has.t rfl)) rfl ?_
    refine st (OK1.call (zpoly_Norm (K := L) (by rw [vals_nz]; exact hFb) hL (by rw [List.length_map]; omega)) (.cons (Has.t rfl) .nil)) rfl ?_
    refine st (OK1.as (Has.t rfl)) rfl ?_
    refine nl ?_
    refine At.thn (hK10 _ _ ?_); clear hK10
    refine Tri.ret ?_
    refine rt1 (.inl rfl) Tryz.results62 rfl (.tmp (Has.t' rfl ?_) .nil)
    all_goals (exact isP_eq (by rw [vals_nz, hF]; unfold both; rw [vals_len, vals_len]))
set_option maxHeartbeats 4000000 in
theorem zpoly_Sub {xs ys : List (Bool × List Nat)} {K : Nat} (hx : Bd (vals xs) K) (hy : Bd (vals ys) K) (hK : K ≤ 3000000000) (hn : xs.length ≤ 1000000) (hm : ys.length ≤ 1000000) : Ctr Tryz.prog 35 [SlK 2 zc xs, SlK 2 zc ys] (isP (psub (vals xs) (vals ys))) := by
  refine Ctr.intro Tryz.func35 rfl (by kernel_rfl) Tryz.ntmps35 rfl fun w0 F0 => ?_
  refine Tri.cv (Cv.wk (.cons (t := 0) (Has.t rfl) (.cons (t := 1) (Has.t rfl) .nil))) ?_
  refine Tri.fact (Has.lenLt (Has.t (t := 0) rfl)) fun lt0 => ?_
  refine Tri.fact (Has.lenLt (Has.t (t := 1) rfl)) fun lt1 => ?_
  refine Tri.seq fun K1 hK1 => ?_
  refine Tri.region ?_
  refine st (OK1.as (Has.cWK (k := 2) (fk := zc))) rfl ?_
  refine nl ?_
  refine At.thn (hK1 _ _ ?_); clear hK1
  refine Tri.seq fun K2 hK2 => ?_
  refine Tri.region ?_
  refine st (OK1.mv (Has.t rfl)) rfl ?_
  refine st (OK1.mv (Has.t rfl)) rfl ?_
  refine st (OK1.call (zpoly_both (op := fun x y => x - y) (L := K + 1) hx hy (fun i => by have := nz_sub (cf (vals xs) i) (cf (vals ys) i); have := hx i; have := hy i; show (List.length (words (cf (vals xs) i - cf (vals ys) i).natAbs)) ≤ K + 1; omega) (by omega) (by rfl) hn hm) (.cons (Has.t rfl) (.cons (Has.t rfl) (.cons (Has.fn (fun i => zint_Sub (by have := i.2.1; omega) (by have := i.2.2; omega))) .nil)))) rfl ?_
  refine st (OK1.as (Has.t rfl)) rfl ?_
  refine nl ?_
  refine At.thn (hK2 _ _ ?_); clear hK2
  refine Tri.cv (Cv.wk (.cons (t := 4) (Has.t rfl) .nil)) ?_
  refine Tri.ret ?_
  refine rt1 (.inl rfl) Tryz.results35 rfl (.tmp (Has.t' rfl ?_) .nil)
  all_goals (rfl)
set_option maxHeartbeats 4000000 in
theorem zpoly_Same {xs ys : List (Bool × List Nat)} {K : Nat} (hx : Bd (vals xs) K) (hy : Bd (vals ys) K) (hK : K ≤ 3000000000) (hn : xs.length ≤ 1000000) (hm : ys.length ≤ 1000000) : Ctr Tryz.prog 14 [SlK 2 zc xs, SlK 2 zc ys] (isB (decide (psub (vals xs) (vals ys) = []))) := by
  refine Ctr.intro Tryz.func14 rfl (by kernel_rfl) Tryz.ntmps14 rfl fun w0 F0 => ?_
  refine Tri.cv (Cv.wk (.cons (t := 0) (Has.t rfl) (.cons (t := 1) (Has.t rfl) .nil))) ?_
  refine Tri.fact (Has.lenLt (Has.t (t := 0) rfl)) fun lt0 => ?_
  refine Tri.fact (Has.lenLt (Has.t (t := 1) rfl)) fun lt1 => ?_
  refine Tri.seq fun K1 hK1 => ?_
  refine Tri.region ?_
  refine st (OK1.as (Has.cB false)) rfl ?_
  refine nl ?_
  refine At.thn (hK1 _ _ ?_); clear hK1
  refine Tri.seq fun K2 hK2 => ?_
  refine Tri.region ?_
  refine st (OK1.mv (Has.t rfl)) rfl ?_
  refine st (OK1.mv (Has.t rfl)) rfl ?_
  refine st (OK1.call (zpoly_Sub hx hy hK hn hm) (.cons (Has.t rfl) (.cons (Has.t rfl) .nil))) rfl ?_
  refine st (OK1.len sl32 (Has.t rfl)) rfl ?_
  refine st (OK1.eqI (Has.t rfl) (Has.cI 0 rfl)) rfl ?_
  refine st (OK1.as (Has.t rfl)) rfl ?_
  refine nl ?_
  refine At.thn (hK2 _ _ ?_); clear hK2
  refine Tri.cv (Cv.wk (.cons (t := 4) (Has.t rfl) .nil)) ?_
  refine Tri.ret ?_
  refine rt1 (.inl rfl) Tryz.results14 rfl (.tmp (Has.t' rfl ?_) .nil)
  all_goals (exact isB_eq (decide_eq_decide.2 (by rw [List.length_map]; exact ⟨fun h => List.eq_nil_of_length_eq_zero (by omega), fun h => by rw [h]; rfl⟩)))
end Go.Proofs.YtkgipdidomikbaaGreat
/- Contracts: polynomials over a field. -/
namespace Go.Proofs.YtkgipdidomikbaaGreat
open Go.En Go.RowKit
set_option linter.unusedVariables false
set_option maxRecDepth 10000
open Go.Nt
open Go.Pz
open Go.Gf
open Go.Po
open Go.Mu
set_option maxHeartbeats 4000000 in
theorem fpoly_at {xs : List Nat} {i : Nat} : Ctr Tryz.prog 97 [isWords xs, isI (i : Int)] (isU (xs.getD i 0)) := by
  refine Ctr.intro Tryz.func97 rfl (by kernel_rfl) Tryz.ntmps97 rfl fun w0 F0 => ?_
  refine Tri.cv (Cv.wk (.cons (t := 0) (Has.t rfl) (.cons (t := 1) (Has.t rfl) .nil))) ?_
  refine Tri.fact (Has.lenLt (Has.t (t := 0) rfl)) fun lt0 => ?_
  refine Tri.fact (Has.okW (Has.t (t := 0) rfl)) fun ok0 => ?_
  refine Tri.fact (Has.rngI (Has.t (t := 1) rfl)) fun lt1 => ?_
  refine Tri.seq fun K1 hK1 => ?_
  refine Tri.region ?_
  refine st (OK1.as (Has.cU 0 rfl)) rfl ?_
  refine nl ?_
  refine At.thn (hK1 _ _ ?_); clear hK1
  refine Tri.seq fun K2 hK2 => ?_
  refine Tri.seq fun K3 hK3 => ?_
  refine Tri.region ?_
  refine st (OK1.mv (Has.t rfl)) rfl ?_
  refine st (OK1.mv (Has.t rfl)) rfl ?_
  refine st (OK1.len sl41 (Has.t rfl)) rfl ?_
  refine st (OK1.ltI (Has.t rfl) (Has.t rfl)) rfl ?_
  refine nl ?_
  refine At.thn (hK3 _ _ ?_); clear hK3
  refine Tri.cond (Has.t rfl) (fun hc1 => ?_) (fun hc1 => ?_)
  · have hc1 := BP.t hc1
    refine Tri.seq fun K4 hK4 => ?_
    refine Tri.region ?_
    refine st (OK1.mv (Has.t rfl)) rfl ?_
    refine st (OK1.mv (Has.t rfl)) rfl ?_
    refine st (OK1.ixP sl41 ty28 (Has.t rfl) (Has.t rfl) ⟨by omega, by omega⟩ (getD_some (d := 0) (by first | omega | (simp only [Int.toNat_natCast, List.length_set]; omega)))) rfl ?_
    refine st (OK1.loadP1 (Has.t rfl) ty28) rfl ?_
    refine st (OK1.as (Has.t rfl)) rfl ?_
    refine nl ?_
    refine At.thn (hK4 _ _ ?_); clear hK4
    refine Tri.cv (Cv.wk (.cons (t := 4) (Has.t rfl) .nil)) ?_
    refine Tri.ret ?_
    refine At.thr ?_
    refine rt1 (.inl rfl) Tryz.results97 rfl (.tmp (Has.t' rfl ?_) .nil)
    all_goals (rfl)
  · have hc1 := BP.f hc1
    refine Tri.skip ?_
    refine At.thn (hK2 _ _ ?_); clear hK2
    refine Tri.cv (Cv.wk (.cons (t := 4) (Has.t rfl) .nil)) ?_
    refine Tri.seq fun K5 hK5 => ?_
    refine Tri.region ?_
    refine st (OK1.as (Has.cU 0 rfl)) rfl ?_
    refine nl ?_
    refine At.thn (hK5 _ _ ?_); clear hK5
    refine Tri.ret ?_
    refine rt1 (.inl rfl) Tryz.results97 rfl (.tmp (Has.t' rfl ?_) .nil)
    all_goals (exact isU_eq (getD_high (by omega)).symm)
set_option maxHeartbeats 4000000 in
theorem fpoly_Norm {q : Nat} {xs : List Nat} (hn : xs.length ≤ 1000000) : Ctr Tryz.prog 30 [Flat [isU q], isWords xs] (isWords (nrm (fp q) (zi xs))) := by
  refine Ctr.intro Tryz.func30 rfl (by kernel_rfl) Tryz.ntmps30 rfl fun w0 F0 => ?_
  refine Tri.cv (Cv.wk (.cons (t := 0) (Has.t rfl) (.cons (t := 1) (Has.t rfl) .nil))) ?_
  refine Tri.fact (Has.lenLt (Has.t (t := 1) rfl)) fun lt1 => ?_
  refine Tri.fact (Has.okW (Has.t (t := 1) rfl)) fun ok1 => ?_
  have hp := fp_pos q
  refine Tri.seq fun K1 hK1 => ?_
  refine Tri.region ?_
  refine Ops.box (Has.t rfl) rfl fun b1 => ?_
  refine st (OK1.as (Has.cW (f := isU))) rfl ?_
  refine nl ?_
  refine At.thn (hK1 _ _ ?_); clear hK1
  refine Tri.seq fun K2 hK2 => ?_
  refine Tri.region ?_
  refine st (OK1.mv (Has.t rfl)) rfl ?_
  refine st (OK1.len sl41 (Has.t rfl)) rfl ?_
  refine st (OK1.as (Has.t rfl)) rfl ?_
  refine nl ?_
  refine At.thn (hK2 _ _ ?_); clear hK2
  refine Tri.seq fun K3 hK3 => ?_
  refine Tri.block ?_
  refine Tri.loopF [1, 2, 4] (fun (z : { n : Nat // n ≤ xs.length ∧ ∀ i, n ≤ i → xs.getD i 0 % fp q = 0 }) => match z with | ⟨n, hI⟩ => [(5, isI (n : Int))]) (fun M => fun (z : { n : Nat // n ≤ xs.length ∧ ∀ i, n ≤ i → xs.getD i 0 % fp q = 0 }) => match z with | ⟨n, hI⟩ => [(some b1, cellM [isU q])]) (fun (z : { n : Nat // n ≤ xs.length ∧ ∀ i, n ≤ i → xs.getD i 0 % fp q = 0 }) => match z with | ⟨n, hI⟩ => n) (⟨xs.length, Nat.le_refl _, fun i hi => by rw [getD_high hi]; exact Nat.zero_mod _⟩) (Cv.mem (.cons (t := 5) (Has.t' rfl ?_) (.cons (t := 1) (Has.t rfl) (.cons (t := 2) (Has.t rfl) (.cons (t := 4) (Has.t rfl) .nil)))) ?_) ?_
  · rfl
  · rfl
  rintro ⟨n, hk, hz⟩ K4 hK4
  refine Tri.cv (Cv.wk (.cons (t := 5) (Has.t rfl) (.cons (t := 1) (Has.t rfl) (.cons (t := 2) (Has.t rfl) (.cons (t := 4) (Has.t rfl) .nil))))) ?_
  refine Tri.memEq (M' := [(some b1, cellM [isU q])]) rfl ?_
  have ek : ((n : Int) - 1).toNat = n - 1 := by omega
  refine Tri.seq fun K5 hK5 => ?_
  refine Tri.seq fun K6 hK6 => ?_
  refine Tri.dr ?_
  refine DrG.st (i := 0) [] rfl rfl rfl (by kernel_rfl) (OKG.o rfl (OK1.mv (Has.t rfl))) ?_
  refine DrG.st (i := 1) [10] rfl rfl rfl (by kernel_rfl) (OKG.o rfl (OK1.gtI (Has.t rfl) (Has.cI 0 rfl))) ?_
  refine DrG.st (i := 2) [11] rfl rfl rfl (by kernel_rfl) (OKG.o rfl (OK1.mv (Has.t rfl))) ?_
  refine DrG.st (i := 3) [12] rfl rfl rfl (by kernel_rfl) (OKG.T rfl rfl rfl (fun hg => have hg' := BP.t hg; OK1.load (Has.t rfl) (i := 0) rfl ty30 rfl (Ss' := [_]) rfl)) ?_
  refine DrG.st (i := 4) [12] rfl rfl rfl (by kernel_rfl) (OKG.T rfl rfl rfl (fun hg => have hg' := BP.t hg; OK1.mv (Has.t rfl))) ?_
  refine DrG.st (i := 5) [12] rfl rfl rfl (by kernel_rfl) (OKG.T rfl rfl rfl (fun hg => have hg' := BP.t hg; OK1.mv (Has.t rfl))) ?_
  refine DrG.st (i := 6) [12, 15] rfl rfl rfl (by kernel_rfl) (OKG.T rfl rfl rfl (fun hg => have hg' := BP.t hg; OK1.subI (Has.g rfl hg) (Has.cI 1 rfl) (by first | omega | assumption) (by first | omega | assumption))) ?_
  refine DrG.st (i := 7) [12, 14, 16] rfl rfl rfl (by kernel_rfl) (OKG.T rfl rfl rfl (fun hg => have hg' := BP.t hg; OK1.ixP sl41 ty28 (Has.g rfl hg) (Has.g rfl hg) ⟨by omega, by omega⟩ (getD_some (d := 0) (by first | omega | (simp only [Int.toNat_natCast, List.length_set]; omega))))) ?_
  refine DrG.st (i := 8) [12, 17] rfl rfl rfl (by kernel_rfl) (OKG.T rfl rfl rfl (fun hg => have hg' := BP.t hg; OK1.loadP1 (Has.g rfl hg) ty28)) ?_
  refine DrG.fin (n := 9) mixed (by kernel_rfl) (by kernel_rfl) (by kernel_rfl) ?_
  refine Ops.cv (Cv.wk (.cons (t := 1) (Has.t rfl) (.cons (t := 2) (Has.t rfl) (.cons (t := 4) (Has.t rfl) (.cons (t := 5) (Has.t rfl) (.cons (t := 10) (Has.t rfl) (.cons (t := 11) (Has.t rfl) (.cons (t := 12) (Has.t rfl) (.cons (t := 13) (Has.t rfl) (.cons (t := 14) (Has.t rfl) (.cons (t := 15) (Has.t rfl) (.cons (t := 16) (Has.t rfl) (.cons (t := 17) (Has.t rfl) (.cons (t := 18) (Has.t rfl) .nil)))))))))))))) ?_
  refine stT rfl rfl (fun hg => have hg' := BP.t hg; OK1.call (gfp_Norm) (.cons (Has.g rfl hg) (.cons (Has.g rfl hg) .nil))) rfl ?_
  refine stT rfl rfl (fun hg => have hg' := BP.t hg; OK1.eqU (Has.g rfl hg) (Has.cU 0 rfl)) rfl ?_
  refine st (OK1.pickAnd (Has.t rfl) (fun h => Has.g rfl h)) rfl ?_
  refine nl ?_
  refine At.thn (hK6 _ _ ?_); clear hK6
  refine Tri.cond (Has.t rfl) (fun hc1 => ?_) (fun hc1 => ?_)
  · have hc1 := BP.t hc1
    have HA1 := hc1
    refine Tri.skip ?_
    refine At.thn (hK5 _ _ ?_); clear hK5
    refine Tri.block ?_
    refine Tri.region ?_
    refine st (OK1.mv (Has.t rfl)) rfl ?_
    refine st (OK1.subI (Has.t rfl) (Has.cI 1 rfl) (by first | omega | assumption) (by first | omega | assumption)) rfl ?_
    refine st (OK1.as (Has.t rfl)) rfl ?_
    refine nl ?_
    refine At.bln ?_
    refine At.thn ?_
    refine hK4 (⟨n - 1, by omega, fun i hi => by rcases Nat.lt_or_ge i n with h | h; (have e : i = n - 1 := by omega); (have := HA1.2; rw [ek] at this; rw [e]; exact this); exact hz i h⟩) _ _ ?_ (Cv.mem (.cons (t := 5) (Has.t' rfl ?_) (.cons (t := 1) (Has.t rfl) (.cons (t := 2) (Has.t rfl) (.cons (t := 4) (Has.t rfl) .nil)))) ?_)
    · show n - 1 < n; omega
    · exact isI_eq (by omega)
    · rfl
  · have hc1 := BP.f hc1
    have HA2 := hc1
    refine Tri.exit ?_
    refine At.the ?_
    refine At.the ?_
    refine At.blh ?_
    refine At.thn (hK3 _ _ ?_); clear hK3
    refine Tri.cv (Cv.wk (.cons (t := 1) (Has.t rfl) (.cons (t := 2) (Has.t rfl) (.cons (t := 4) (Has.t rfl) (.cons (t := 5) (Has.t rfl) .nil))))) ?_
    refine Tri.seq fun K7 hK7 => ?_
    refine Tri.seq fun K8 hK8 => ?_
    refine Tri.region ?_
    refine st (OK1.mv (Has.t rfl)) rfl ?_
    refine st (OK1.eqI (Has.t rfl) (Has.cI 0 rfl)) rfl ?_
    refine nl ?_
    refine At.thn (hK8 _ _ ?_); clear hK8
    refine Tri.cond (Has.t rfl) (fun hc2 => ?_) (fun hc2 => ?_)
    · have hc2 := BP.t hc2
      refine Tri.seq fun K9 hK9 => ?_
      refine Tri.region ?_
      refine st (OK1.as (Has.cW (f := isU))) rfl ?_
      refine nl ?_
      refine At.thn (hK9 _ _ ?_); clear hK9
      refine Tri.ret ?_
      refine At.thr ?_
      refine rt1 (.inl rfl) Tryz.results30 rfl (.tmp (Has.t' rfl ?_) .nil)
      all_goals (exact SlM_eq (nrm_take (n := 0) (.inl rfl) fun i hi => hz i (by omega)))
    · have hc2 := BP.f hc2
      refine Tri.skip ?_
      refine At.thn (hK7 _ _ ?_); clear hK7
      refine Tri.seq fun K10 hK10 => ?_
      refine Tri.region ?_
      refine st (OK1.mv (Has.t rfl)) rfl ?_
      refine Ops.make (f := isU) (u := 0) (n := n) (c := n) sl41 ty28 zero28 (fun _ _ => ⟨⟨rfl, by decide⟩, trivial⟩) by28 (Has.t' rfl rfl) (Has.t' rfl rfl) ⟨by omega, by omega⟩ rfl fun b2 => ?_
      refine st (OK1.as (Has.t rfl)) rfl ?_
      refine nl ?_
      refine At.thn (hK10 _ _ ?_); clear hK10
      refine Tri.cv (Cv.wk (.cons (t := 1) (Has.t rfl) (.cons (t := 2) (Has.t rfl) (.cons (t := 4) (Has.t rfl) (.cons (t := 6) (Has.t rfl) .nil))))) ?_
      refine Tri.seq fun K11 hK11 => ?_
      refine Tri.seq fun K12 hK12 => ?_
      refine Tri.region ?_
      refine st (OK1.mv (Has.t rfl)) rfl ?_
      refine st (OK1.len sl41 (Has.t rfl)) rfl ?_
      refine st (OK1.mv (Has.cI 0 rfl)) rfl ?_
      refine nl ?_
      refine At.thn (hK12 _ _ ?_); clear hK12
      refine Tri.block ?_
      refine Tri.loopF [1, 2, 4, 6, 29] (fun (z : { i : Nat // i ≤ n }) => match z with | ⟨i, hi⟩ => [(30, isI (i : Int))]) (fun M => fun (z : { i : Nat // i ≤ n }) => match z with | ⟨i, hi⟩ => [(some b2, cellM ((fill (nmU (fp q) xs n) i 0).map isU)), (some b1, cellM [isU q])]) (fun (z : { i : Nat // i ≤ n }) => match z with | ⟨i, hi⟩ => n - i) (⟨0, Nat.zero_le _⟩) (Cv.mem (.cons (t := 30) (Has.t' rfl ?_) (.cons (t := 1) (Has.t rfl) (.cons (t := 2) (Has.t rfl) (.cons (t := 4) (Has.t rfl) (.cons (t := 6) (Has.t rfl) (.cons (t := 29) (Has.t rfl) .nil)))))) ?_) ?_
      · rfl
      · exact memL_eq (by rw [fill_zero, nmU_len hk])
      rintro ⟨i, hi⟩ K13 hK13
      refine Tri.cv (Cv.wk (.cons (t := 30) (Has.t rfl) (.cons (t := 1) (Has.t rfl) (.cons (t := 2) (Has.t rfl) (.cons (t := 4) (Has.t rfl) (.cons (t := 6) (Has.t rfl) (.cons (t := 29) (Has.t rfl) .nil))))))) ?_
      refine Tri.memEq (M' := [(some b2, cellM ((fill (nmU (fp q) xs n) i 0).map isU)), (some b1, cellM [isU q])]) rfl ?_
      refine Tri.seq fun K14 hK14 => ?_
      refine Tri.region ?_
      refine st (OK1.ltI (Has.t rfl) (Has.t rfl)) rfl ?_
      refine nl ?_
      refine At.thn (hK14 _ _ ?_); clear hK14
      refine Tri.seq fun K15 hK15 => ?_
      refine Tri.cond (Has.t rfl) (fun hc3 => ?_) (fun hc3 => ?_)
      · have hc3 := BP.t hc3
        refine Tri.skip ?_
        refine At.thn (hK15 _ _ ?_); clear hK15
        refine Tri.seq fun K16 hK16 => ?_
        refine Tri.block ?_
        refine Tri.seq fun K17 hK17 => ?_
        refine Tri.region ?_
        refine st (OK1.mv (Has.t rfl)) rfl ?_
        refine st (OK1.as (Has.t rfl)) rfl ?_
        refine nl ?_
        refine At.thn (hK17 _ _ ?_); clear hK17
        refine Tri.dr ?_
        refine DrG.st (i := 0) [] rfl rfl rfl (by kernel_rfl) (OKG.o rfl (OK1.mv (Has.t rfl))) ?_
        refine DrG.st (i := 1) [] rfl rfl rfl (by kernel_rfl) (OKG.o rfl (OK1.mv (Has.t rfl))) ?_
        refine DrG.st (i := 2) [] rfl rfl rfl (by kernel_rfl) (OKG.o rfl (OK1.load (Has.t rfl) (i := 1) rfl ty30 rfl (Ss' := [_]) rfl)) ?_
        refine DrG.st (i := 3) [] rfl rfl rfl (by kernel_rfl) (OKG.o rfl (OK1.mv (Has.t rfl))) ?_
        refine DrG.st (i := 4) [] rfl rfl rfl (by kernel_rfl) (OKG.o rfl (OK1.mv (Has.t rfl))) ?_
        refine DrG.st (i := 5) [36, 37] rfl rfl rfl (by kernel_rfl) (OKG.o rfl (OK1.ixP sl41 ty28 (Has.t rfl) (Has.t rfl) ⟨by omega, by omega⟩ (getD_some (d := 0) (by first | omega | (simp only [Int.toNat_natCast, List.length_set]; omega))))) ?_
        refine DrG.st (i := 6) [38] rfl rfl rfl (by kernel_rfl) (OKG.o rfl (OK1.loadP1 (Has.t rfl) ty28)) ?_
        refine DrG.st (i := 7) [35, 39] rfl rfl rfl (by kernel_rfl) (OKG.o rfl (OK1.call (gfp_Norm) (.cons (Has.t rfl) (.cons (Has.t rfl) .nil)))) ?_
        refine DrG.fin (n := 8) mixed (by kernel_rfl) (by kernel_rfl) (by kernel_rfl) ?_
        refine Ops.cv (Cv.wk (.cons (t := 1) (Has.t rfl) (.cons (t := 2) (Has.t rfl) (.cons (t := 4) (Has.t rfl) (.cons (t := 6) (Has.t rfl) (.cons (t := 29) (Has.t rfl) (.cons (t := 30) (Has.t rfl) (.cons (t := 31) (Has.t rfl) (.cons (t := 32) (Has.t rfl) (.cons (t := 7) (Has.t rfl) (.cons (t := 33) (Has.t rfl) (.cons (t := 34) (Has.t rfl) (.cons (t := 35) (Has.t rfl) (.cons (t := 36) (Has.t rfl) (.cons (t := 37) (Has.t rfl) (.cons (t := 38) (Has.t rfl) (.cons (t := 39) (Has.t rfl) (.cons (t := 40) (Has.t rfl) .nil)))))))))))))))))) ?_
        refine st (OK1.eq (OK1.ixWin sl41 ty28 (Has.t rfl) (Has.t rfl) ⟨by omega, by omega⟩) (isPtr_eq (by first | exact ixo0 | exact ixo2 | exact ixo1))) rfl ?_
        refine Ops.storeM (Has.t rfl) (Has.t rfl) (i := 0) rfl ty28 (by rw [fill_len _ _ _ (by rw [nmU_len hk]; omega), nmU_len hk]; omega) (M' := [(_, _), _]) rfl ?_
        refine nl ?_
        refine At.bln ?_
        refine At.thn (hK16 _ _ ?_); clear hK16
        refine Tri.region ?_
        refine st (OK1.addI (Has.t rfl) (Has.cI 1 rfl) (by first | omega | assumption) (by first | omega | assumption)) rfl ?_
        refine st (OK1.mv (Has.t rfl)) rfl ?_
        refine nl ?_
        refine At.thn ?_
        refine hK13 (⟨i + 1, by omega⟩) _ _ ?_ (Cv.mem (.cons (t := 30) (Has.t' rfl ?_) (.cons (t := 1) (Has.t rfl) (.cons (t := 2) (Has.t rfl) (.cons (t := 4) (Has.t rfl) (.cons (t := 6) (Has.t rfl) (.cons (t := 29) (Has.t rfl) .nil)))))) ?_)
        · show n - (i + 1) < n - i; omega
        · exact isI_eq (by omega)
        · exact memL_eq (fill_set _ _ _ _ (nmU_get hk (by omega)))
      · have hc3 := BP.f hc3
        refine Tri.exit ?_
        refine At.the ?_
        refine At.the ?_
        refine At.blh ?_
        refine At.thn (hK11 _ _ ?_); clear hK11
        refine Tri.cv (Cv.wk (.cons (t := 4) (Has.t rfl) (.cons (t := 6) (Has.t rfl) .nil))) ?_
        refine Tri.seq fun K18 hK18 => ?_
        refine Tri.cv (Cv.freeze' (t := 6) (i := 0) (ys := nmU (fp q) xs n) rfl rfl rfl (by rw [fill_len _ _ _ (by rw [nmU_len hk]; omega), nmU_len hk]; omega) (fill_done (by rw [nmU_len hk]; omega) (by rw [nmU_len hk]))) ?_
        refine Tri.memEq (M' := [_]) rfl ?_
        refine Tri.cv (Cv.wk (.cons (t := 4) (Has.t rfl) (.cons (t := 6) (Has.t rfl) .nil))) ?_
        refine Tri.region ?_
        refine st (OK1.mv (Has.t rfl)) rfl ?_
        refine st (OK1.as (Has.t rfl)) rfl ?_
        refine nl ?_
        refine At.thn (hK18 _ _ ?_); clear hK18
        refine Tri.ret ?_
        refine rt1 (.inl rfl) Tryz.results30 rfl (.tmp (Has.t' rfl ?_) .nil)
        all_goals (exact SlM_eq (nrm_take (by rcases HA2 with h | h; left; omega; right; rw [← ek]; exact h) hz))
set_option maxHeartbeats 4000000 in
theorem fpoly_both {q : Nat} {op : Nat → Nat → Nat} {xs ys : List Nat} (hn : xs.length ≤ 1000000) (hm : ys.length ≤ 1000000) : Ctr Tryz.prog 84 [Flat [isU q], isWords xs, isWords ys, isFun (ι := Nat × Nat) Tryz.prog (fun p => [isU p.1, isU p.2]) (fun p => isU (op p.1 p.2))] (isWords (nrm (fp q) (zi (bothU op xs ys)))) := by
  refine Ctr.intro Tryz.func84 rfl (by kernel_rfl) Tryz.ntmps84 rfl fun w0 F0 => ?_
  refine Tri.cv (Cv.wk (.cons (t := 0) (Has.t rfl) (.cons (t := 1) (Has.t rfl) (.cons (t := 2) (Has.t rfl) (.cons (t := 3) (Has.t rfl) .nil))))) ?_
  refine Tri.fact (Has.lenLt (Has.t (t := 1) rfl)) fun lt1 => ?_
  refine Tri.fact (Has.okW (Has.t (t := 1) rfl)) fun ok1 => ?_
  refine Tri.fact (Has.lenLt (Has.t (t := 2) rfl)) fun lt2 => ?_
  refine Tri.fact (Has.okW (Has.t (t := 2) rfl)) fun ok2 => ?_
  have hbl := bothU_len op xs ys
  refine Tri.seq fun K1 hK1 => ?_
  refine Tri.region ?_
  refine Ops.box (Has.t rfl) rfl fun b1 => ?_
  refine st (OK1.as (Has.cW (f := isU))) rfl ?_
  refine nl ?_
  refine At.thn (hK1 _ _ ?_); clear hK1
  refine Tri.seq fun K2 hK2 => ?_
  refine Tri.region ?_
  refine st (OK1.mv (Has.t rfl)) rfl ?_
  refine st (OK1.len sl41 (Has.t rfl)) rfl ?_
  refine st (OK1.mv (Has.t rfl)) rfl ?_
  refine st (OK1.len sl41 (Has.t rfl)) rfl ?_
  refine st (OK1.eq (OK1.maxI (Has.t rfl) (Has.t rfl)) ((show isI _ = isI ((max xs.length ys.length : Nat) : Int) from isI_eq (by omega)))) rfl ?_
  refine Ops.make (f := isU) (u := 0) (n := max xs.length ys.length) (c := max xs.length ys.length) sl41 ty28 zero28 (fun _ _ => ⟨⟨rfl, by decide⟩, trivial⟩) by28 (Has.t' rfl rfl) (Has.t' rfl rfl) ⟨by omega, by omega⟩ rfl fun b2 => ?_
  refine st (OK1.as (Has.t rfl)) rfl ?_
  refine nl ?_
  refine At.thn (hK2 _ _ ?_); clear hK2
  refine Tri.cv (Cv.wk (.cons (t := 1) (Has.t rfl) (.cons (t := 2) (Has.t rfl) (.cons (t := 3) (Has.t rfl) (.cons (t := 4) (Has.t rfl) (.cons (t := 8) (Has.t rfl) (.cons (t := 9) (Has.t rfl) .nil))))))) ?_
  refine Tri.seq fun K3 hK3 => ?_
  refine Tri.seq fun K4 hK4 => ?_
  refine Tri.region ?_
  refine st (OK1.mv (Has.t rfl)) rfl ?_
  refine st (OK1.len sl41 (Has.t rfl)) rfl ?_
  refine st (OK1.mv (Has.cI 0 rfl)) rfl ?_
  refine nl ?_
  refine At.thn (hK4 _ _ ?_); clear hK4
  refine Tri.block ?_
  refine Tri.loopF [1, 2, 3, 4, 8, 9, 18] (fun (z : { i : Nat // i ≤ max xs.length ys.length }) => match z with | ⟨i, hi⟩ => [(19, isI (i : Int))]) (fun M => fun (z : { i : Nat // i ≤ max xs.length ys.length }) => match z with | ⟨i, hi⟩ => [(some b2, cellM ((fill (bothU op xs ys) i 0).map isU)), (some b1, cellM [isU q])]) (fun (z : { i : Nat // i ≤ max xs.length ys.length }) => match z with | ⟨i, hi⟩ => max xs.length ys.length - i) (⟨0, Nat.zero_le _⟩) (Cv.mem (.cons (t := 19) (Has.t' rfl ?_) (.cons (t := 1) (Has.t rfl) (.cons (t := 2) (Has.t rfl) (.cons (t := 3) (Has.t rfl) (.cons (t := 4) (Has.t rfl) (.cons (t := 8) (Has.t rfl) (.cons (t := 9) (Has.t rfl) (.cons (t := 18) (Has.t rfl) .nil)))))))) ?_) ?_
  · rfl
  · exact memL_eq (by rw [fill_zero, hbl])
  rintro ⟨i, hi⟩ K5 hK5
  refine Tri.cv (Cv.wk (.cons (t := 19) (Has.t rfl) (.cons (t := 1) (Has.t rfl) (.cons (t := 2) (Has.t rfl) (.cons (t := 3) (Has.t rfl) (.cons (t := 4) (Has.t rfl) (.cons (t := 8) (Has.t rfl) (.cons (t := 9) (Has.t rfl) (.cons (t := 18) (Has.t rfl) .nil))))))))) ?_
  refine Tri.memEq (M' := [(some b2, cellM ((fill (bothU op xs ys) i 0).map isU)), (some b1, cellM [isU q])]) rfl ?_
  refine Tri.seq fun K6 hK6 => ?_
  refine Tri.region ?_
  refine st (OK1.ltI (Has.t rfl) (Has.t rfl)) rfl ?_
  refine nl ?_
  refine At.thn (hK6 _ _ ?_); clear hK6
  refine Tri.seq fun K7 hK7 => ?_
  refine Tri.cond (Has.t rfl) (fun hc1 => ?_) (fun hc1 => ?_)
  · have hc1 := BP.t hc1
    refine Tri.skip ?_
    refine At.thn (hK7 _ _ ?_); clear hK7
    refine Tri.seq fun K8 hK8 => ?_
    refine Tri.block ?_
    refine Tri.seq fun K9 hK9 => ?_
    refine Tri.region ?_
    refine st (OK1.mv (Has.t rfl)) rfl ?_
    refine st (OK1.as (Has.t rfl)) rfl ?_
    refine nl ?_
    refine At.thn (hK9 _ _ ?_); clear hK9
    refine Tri.region ?_
    refine st (OK1.mv (Has.t rfl)) rfl ?_
    refine st (OK1.mv (Has.t rfl)) rfl ?_
    refine st (OK1.mv (Has.t rfl)) rfl ?_
    refine st (OK1.mv (Has.t rfl)) rfl ?_
    refine st (OK1.mv (Has.t rfl)) rfl ?_
    refine st (OK1.call (fpoly_at) (.cons (Has.t rfl) (.cons (Has.t rfl) .nil))) rfl ?_
    refine st (OK1.mv (Has.t rfl)) rfl ?_
    refine st (OK1.mv (Has.t rfl)) rfl ?_
    refine st (OK1.call (fpoly_at) (.cons (Has.t rfl) (.cons (Has.t rfl) .nil))) rfl ?_
    refine st (OK1.callV (xs.getD i 0, ys.getD i 0) (Has.t rfl) (.cons (Has.t rfl) (.cons (Has.t rfl) .nil))) rfl ?_
    refine st (OK1.eq (OK1.ixWin sl41 ty28 (Has.t rfl) (Has.t rfl) ⟨by omega, by omega⟩) (isPtr_eq (by first | exact ixo0 | exact ixo2 | exact ixo1))) rfl ?_
    refine Ops.storeM (Has.t rfl) (Has.t rfl) (i := 0) rfl ty28 (by rw [fill_len _ _ _ (by omega), hbl]; omega) (M' := [(_, _), _]) rfl ?_
    refine nl ?_
    refine At.bln ?_
    refine At.thn (hK8 _ _ ?_); clear hK8
    refine Tri.region ?_
    refine st (OK1.addI (Has.t rfl) (Has.cI 1 rfl) (by first | omega | assumption) (by first | omega | assumption)) rfl ?_
    refine st (OK1.mv (Has.t rfl)) rfl ?_
    refine nl ?_
    refine At.thn ?_
    refine hK5 (⟨i + 1, by omega⟩) _ _ ?_ (Cv.mem (.cons (t := 19) (Has.t' rfl ?_) (.cons (t := 1) (Has.t rfl) (.cons (t := 2) (Has.t rfl) (.cons (t := 3) (Has.t rfl) (.cons (t := 4) (Has.t rfl) (.cons (t := 8) (Has.t rfl) (.cons (t := 9) (Has.t rfl) (.cons (t := 18) (Has.t rfl) .nil)))))))) ?_)
    · show max xs.length ys.length - (i + 1) < max xs.length ys.length - i; omega
    · exact isI_eq (by omega)
    · exact memL_eq (fill_set _ _ _ _ (bothU_get (by omega)))
  · have hc1 := BP.f hc1
    refine Tri.exit ?_
    refine At.the ?_
    refine At.the ?_
    refine At.blh ?_
    refine At.thn (hK3 _ _ ?_); clear hK3
    refine Tri.cv (Cv.wk (.cons (t := 4) (Has.t rfl) (.cons (t := 8) (Has.t rfl) (.cons (t := 9) (Has.t rfl) .nil)))) ?_
    refine Tri.seq fun K10 hK10 => ?_
    refine Tri.cv (Cv.freeze' (t := 9) (i := 0) (ys := bothU op xs ys) rfl rfl rfl (by rw [fill_len _ _ _ (by omega), hbl]; omega) (fill_done (by omega) (by omega))) ?_
    refine Tri.memEq (M' := [_]) rfl ?_
    refine Tri.cv (Cv.wk (.cons (t := 4) (Has.t rfl) (.cons (t := 8) (Has.t rfl) (.cons (t := 9) (Has.t rfl) .nil)))) ?_
    refine Tri.region ?_
    refine st (OK1.load (Has.t rfl) (i := 0) rfl ty30 rfl (Ss' := [_]) rfl) rfl ?_
    refine st (OK1.mv (Has.t rfl)) rfl ?_
    refine st (OK1.call (fpoly_Norm (by omega)) (.cons (Has.t rfl) (.cons (Has.t rfl) .nil))) rfl ?_
    refine st (OK1.as (Has.t rfl)) rfl ?_
    refine nl ?_
    refine At.thn (hK10 _ _ ?_); clear hK10
    refine Tri.cv (Cv.wk (.cons (t := 8) (Has.t rfl) .nil)) ?_
    refine Tri.ret ?_
    refine rt1 (.inl rfl) Tryz.results84 rfl (.tmp (Has.t' rfl ?_) .nil)
    all_goals (rfl)
set_option maxHeartbeats 4000000 in
theorem fpoly_Mul {q : Nat} {xs ys : List Nat} (hq : q < 4294967296) (hn : xs.length ≤ 400000) (hm : ys.length ≤ 400000) : Ctr Tryz.prog 57 [Flat [isU q], isWords xs, isWords ys] (isWords (nrm (fp q) (rmul (zi xs) (zi ys)))) := by
  refine Ctr.intro Tryz.func57 rfl (by kernel_rfl) Tryz.ntmps57 rfl fun w0 F0 => ?_
  refine Tri.cv (Cv.wk (.cons (t := 0) (Has.t rfl) (.cons (t := 1) (Has.t rfl) (.cons (t := 2) (Has.t rfl) .nil)))) ?_
  refine Tri.fact (Has.lenLt (Has.t (t := 1) rfl)) fun lt1 => ?_
  refine Tri.fact (Has.okW (Has.t (t := 1) rfl)) fun ok1 => ?_
  refine Tri.fact (Has.lenLt (Has.t (t := 2) rfl)) fun lt2 => ?_
  refine Tri.fact (Has.okW (Has.t (t := 2) rfl)) fun ok2 => ?_
  have hp := fp_pos q
  have hl := fp_lt hq
  obtain ⟨A, hA⟩ : ∃ A, A = nrm (fp q) (zi xs) := ⟨_, rfl⟩
  obtain ⟨B, hB⟩ : ∃ B, B = nrm (fp q) (zi ys) := ⟨_, rfl⟩
  have hAl : A.length ≤ xs.length := by rw [hA]; exact nrm_zi _
  have hBl : B.length ≤ ys.length := by rw [hB]; exact nrm_zi _
  refine Tri.seq fun K1 hK1 => ?_
  refine Tri.region ?_
  refine Ops.box (Has.t rfl) rfl fun b1 => ?_
  refine st (OK1.as (Has.cW (f := isU))) rfl ?_
  refine nl ?_
  refine At.thn (hK1 _ _ ?_); clear hK1
  refine Tri.seq fun K2 hK2 => ?_
  refine Tri.dr ?_
  refine DrG.st (i := 0) [] rfl rfl rfl (by kernel_rfl) (OKG.o rfl (OK1.load (Has.t rfl) (i := 0) rfl ty30 rfl (Ss' := [_]) rfl)) ?_
  refine DrG.st (i := 1) [] rfl rfl rfl (by kernel_rfl) (OKG.o rfl (OK1.mv (Has.t rfl))) ?_
  refine DrG.st (i := 2) [12, 13] rfl rfl rfl (by kernel_rfl) (OKG.o rfl (OK1.eq (OK1.call (fpoly_Norm (by omega)) (.cons (Has.t rfl) (.cons (Has.t rfl) .nil))) ((show isWords _ = isWords A from SlM_eq hA.symm)))) ?_
  refine DrG.st (i := 3) [] rfl rfl rfl (by kernel_rfl) (OKG.o rfl (OK1.load (Has.t rfl) (i := 0) rfl ty30 rfl (Ss' := [_]) rfl)) ?_
  refine DrG.st (i := 4) [] rfl rfl rfl (by kernel_rfl) (OKG.o rfl (OK1.mv (Has.t rfl))) ?_
  refine DrG.fin (n := 5) mixed (by kernel_rfl) (by kernel_rfl) (by kernel_rfl) ?_
  refine Ops.cv (Cv.wk (.cons (t := 1) (Has.t rfl) (.cons (t := 2) (Has.t rfl) (.cons (t := 3) (Has.t rfl) (.cons (t := 6) (Has.t rfl) (.cons (t := 14) (Has.t rfl) (.cons (t := 15) (Has.t rfl) (.cons (t := 16) (Has.t rfl) .nil)))))))) ?_
  refine st (OK1.eq (OK1.call (fpoly_Norm (by omega)) (.cons (Has.t rfl) (.cons (Has.t rfl) .nil))) ((show isWords _ = isWords B from SlM_eq hB.symm))) rfl ?_
  refine st (OK1.as (Has.t rfl)) rfl ?_
  refine st (OK1.as (Has.t rfl)) rfl ?_
  refine nl ?_
  refine At.thn (hK2 _ _ ?_); clear hK2
  refine Tri.seq fun K3 hK3 => ?_
  refine Tri.seq fun K4 hK4 => ?_
  refine Tri.region ?_
  refine st (OK1.mv (Has.t rfl)) rfl ?_
  refine st (OK1.len sl41 (Has.t rfl)) rfl ?_
  refine st (OK1.eqI (Has.t rfl) (Has.cI 0 rfl)) rfl ?_
  refine st (OK1.mv (Has.t rfl)) rfl ?_
  refine stF rfl rfl (fun hg => have hg' := BP.t hg; OK1.mv (Has.t rfl)) rfl ?_
  refine stF rfl rfl (fun hg => have hg' := BP.t hg; OK1.len sl41 (Has.g rfl hg)) rfl ?_
  refine stF rfl rfl (fun hg => have hg' := BP.t hg; OK1.eqI (Has.g rfl hg) (Has.cI 0 rfl)) rfl ?_
  refine st (OK1.pickOr (Has.t rfl) (fun h => Has.g rfl (ng h))) rfl ?_
  refine nl ?_
  refine At.thn (hK4 _ _ ?_); clear hK4
  refine Tri.cv (Cv.wk (.cons (t := 1) (Has.t rfl) (.cons (t := 2) (Has.t rfl) (.cons (t := 3) (Has.t rfl) (.cons (t := 6) (Has.t rfl) (.cons (t := 25) (Has.t rfl) .nil)))))) ?_
  refine Tri.cond (Has.t rfl) (fun hc1 => ?_) (fun hc1 => ?_)
  · have hc1 := BP.t hc1
    have HE := hc1
    refine Tri.seq fun K5 hK5 => ?_
    refine Tri.region ?_
    refine st (OK1.as (Has.cW (f := isU))) rfl ?_
    refine nl ?_
    refine At.thn (hK5 _ _ ?_); clear hK5
    refine Tri.ret ?_
    refine At.thr ?_
    refine rt1 (.inl rfl) Tryz.results57 rfl (.tmp (Has.t' rfl ?_) .nil)
    all_goals (exact SlM_eq (mul_none hp (by rw [← hA, ← hB]; exact HE.imp (fun h => List.eq_nil_of_length_eq_zero (by omega)) fun h => List.eq_nil_of_length_eq_zero (by omega))).symm)
  · have hc1 := BP.f hc1
    have hA0 : 0 < A.length := Nat.pos_of_ne_zero (by omega)
    have hB0 : 0 < B.length := Nat.pos_of_ne_zero (by omega)
    refine Tri.skip ?_
    refine At.thn (hK3 _ _ ?_); clear hK3
    refine Tri.seq fun K6 hK6 => ?_
    refine Tri.region ?_
    refine st (OK1.mv (Has.t rfl)) rfl ?_
    refine st (OK1.len sl41 (Has.t rfl)) rfl ?_
    refine st (OK1.mv (Has.t rfl)) rfl ?_
    refine st (OK1.len sl41 (Has.t rfl)) rfl ?_
    refine st (OK1.addI (Has.t rfl) (Has.t rfl) (by first | omega | assumption) (by first | omega | assumption)) rfl ?_
    refine st (OK1.eq (OK1.subI (Has.t rfl) (Has.cI 1 rfl) (by first | omega | assumption) (by first | omega | assumption)) ((show isI _ = isI ((A.length + B.length - 1 : Nat) : Int) from isI_eq (by omega)))) rfl ?_
    refine Ops.make (f := isU) (u := 0) (n := A.length + B.length - 1) (c := A.length + B.length - 1) sl41 ty28 zero28 (fun _ _ => ⟨⟨rfl, by decide⟩, trivial⟩) by28 (Has.t' rfl rfl) (Has.t' rfl rfl) ⟨Nat.le_refl _, by omega⟩ rfl fun b2 => ?_
    refine st (OK1.as (Has.t rfl)) rfl ?_
    refine nl ?_
    refine At.thn (hK6 _ _ ?_); clear hK6
    refine Tri.cv (Cv.wk (.cons (t := 1) (Has.t rfl) (.cons (t := 2) (Has.t rfl) (.cons (t := 3) (Has.t rfl) (.cons (t := 6) (Has.t rfl) (.cons (t := 7) (Has.t rfl) .nil)))))) ?_
    refine Tri.seq fun K7 hK7 => ?_
    refine Tri.seq fun K8 hK8 => ?_
    refine Tri.region ?_
    refine st (OK1.mv (Has.t rfl)) rfl ?_
    refine st (OK1.len sl41 (Has.t rfl)) rfl ?_
    refine st (OK1.mv (Has.cI 0 rfl)) rfl ?_
    refine nl ?_
    refine At.thn (hK8 _ _ ?_); clear hK8
    refine Tri.block ?_
    refine Tri.loopF [2, 3, 6, 7, 33, 34] (fun (z : { i : Nat // i ≤ A.length }) => match z with | ⟨i, hi⟩ => [(35, isI (i : Int))]) (fun M => fun (z : { i : Nat // i ≤ A.length }) => match z with | ⟨i, hi⟩ => [(some b2, cellM ((rwU (fp q) A B i 0).map isU)), (some b1, cellM [isU q])]) (fun (z : { i : Nat // i ≤ A.length }) => match z with | ⟨i, hi⟩ => A.length - i) (⟨0, Nat.zero_le _⟩) (Cv.mem (.cons (t := 35) (Has.t' rfl ?_) (.cons (t := 2) (Has.t rfl) (.cons (t := 3) (Has.t rfl) (.cons (t := 6) (Has.t rfl) (.cons (t := 7) (Has.t rfl) (.cons (t := 33) (Has.t rfl) (.cons (t := 34) (Has.t rfl) .nil))))))) ?_) ?_
    · rfl
    · exact memL_eq (by rw [rwU_zero])
    rintro ⟨i, hi⟩ K9 hK9
    refine Tri.cv (Cv.wk (.cons (t := 35) (Has.t rfl) (.cons (t := 2) (Has.t rfl) (.cons (t := 3) (Has.t rfl) (.cons (t := 6) (Has.t rfl) (.cons (t := 7) (Has.t rfl) (.cons (t := 33) (Has.t rfl) (.cons (t := 34) (Has.t rfl) .nil)))))))) ?_
    refine Tri.memEq (M' := [(some b2, cellM ((rwU (fp q) A B i 0).map isU)), (some b1, cellM [isU q])]) rfl ?_
    refine Tri.seq fun K10 hK10 => ?_
    refine Tri.region ?_
    refine st (OK1.ltI (Has.t rfl) (Has.t rfl)) rfl ?_
    refine nl ?_
    refine At.thn (hK10 _ _ ?_); clear hK10
    refine Tri.seq fun K11 hK11 => ?_
    refine Tri.cond (Has.t rfl) (fun hc2 => ?_) (fun hc2 => ?_)
    · have hc2 := BP.t hc2
      refine Tri.skip ?_
      refine At.thn (hK11 _ _ ?_); clear hK11
      refine Tri.seq fun K12 hK12 => ?_
      refine Tri.block ?_
      refine Tri.seq fun K13 hK13 => ?_
      refine Tri.region ?_
      refine st (OK1.mv (Has.t rfl)) rfl ?_
      refine st (OK1.ixP sl41 ty28 (Has.t rfl) (Has.t rfl) ⟨by omega, by omega⟩ (getD_some (d := 0) (by first | omega | (simp only [Int.toNat_natCast, List.length_set]; omega)))) rfl ?_
      refine st (OK1.loadP1 (Has.t rfl) ty28) rfl ?_
      refine st (OK1.as (Has.t rfl)) rfl ?_
      refine st (OK1.as (Has.t rfl)) rfl ?_
      refine nl ?_
      refine At.thn (hK13 _ _ ?_); clear hK13
      refine Tri.seq fun K14 hK14 => ?_
      refine Tri.region ?_
      refine st (OK1.mv (Has.t rfl)) rfl ?_
      refine st (OK1.len sl41 (Has.t rfl)) rfl ?_
      refine st (OK1.mv (Has.cI 0 rfl)) rfl ?_
      refine nl ?_
      refine At.thn (hK14 _ _ ?_); clear hK14
      refine Tri.block ?_
      refine Tri.loopF [2, 3, 6, 7, 33, 34, 35, 36, 37, 38, 39, 8, 9, 40, 41] (fun (z : { k : Nat // k ≤ B.length }) => match z with | ⟨k, hk⟩ => [(42, isI (k : Int))]) (fun M => fun (z : { k : Nat // k ≤ B.length }) => match z with | ⟨k, hk⟩ => [(some b2, cellM ((rwU (fp q) A B i k).map isU)), (some b1, cellM [isU q])]) (fun (z : { k : Nat // k ≤ B.length }) => match z with | ⟨k, hk⟩ => B.length - k) (⟨0, Nat.zero_le _⟩) (Cv.mem (.cons (t := 42) (Has.t' rfl ?_) (.cons (t := 2) (Has.t rfl) (.cons (t := 3) (Has.t rfl) (.cons (t := 6) (Has.t rfl) (.cons (t := 7) (Has.t rfl) (.cons (t := 33) (Has.t rfl) (.cons (t := 34) (Has.t rfl) (.cons (t := 35) (Has.t rfl) (.cons (t := 36) (Has.t rfl) (.cons (t := 37) (Has.t rfl) (.cons (t := 38) (Has.t rfl) (.cons (t := 39) (Has.t rfl) (.cons (t := 8) (Has.t rfl) (.cons (t := 9) (Has.t rfl) (.cons (t := 40) (Has.t rfl) (.cons (t := 41) (Has.t rfl) .nil)))))))))))))))) ?_) ?_
      · rfl
      · rfl
      rintro ⟨k, hk⟩ K15 hK15
      refine Tri.cv (Cv.wk (.cons (t := 42) (Has.t rfl) (.cons (t := 2) (Has.t rfl) (.cons (t := 3) (Has.t rfl) (.cons (t := 6) (Has.t rfl) (.cons (t := 7) (Has.t rfl) (.cons (t := 33) (Has.t rfl) (.cons (t := 34) (Has.t rfl) (.cons (t := 35) (Has.t rfl) (.cons (t := 36) (Has.t rfl) (.cons (t := 37) (Has.t rfl) (.cons (t := 38) (Has.t rfl) (.cons (t := 39) (Has.t rfl) (.cons (t := 8) (Has.t rfl) (.cons (t := 9) (Has.t rfl) (.cons (t := 40) (Has.t rfl) (.cons (t := 41) (Has.t rfl) .nil))))))))))))))))) ?_
      refine Tri.memEq (M' := [(some b2, cellM ((rwU (fp q) A B i k).map isU)), (some b1, cellM [isU q])]) rfl ?_
      refine Tri.seq fun K16 hK16 => ?_
      refine Tri.region ?_
      refine st (OK1.ltI (Has.t rfl) (Has.t rfl)) rfl ?_
      refine nl ?_
      refine At.thn (hK16 _ _ ?_); clear hK16
      refine Tri.seq fun K17 hK17 => ?_
      refine Tri.cond (Has.t rfl) (fun hc3 => ?_) (fun hc3 => ?_)
      · have hc3 := BP.t hc3
        refine Tri.skip ?_
        refine At.thn (hK17 _ _ ?_); clear hK17
        refine Tri.seq fun K18 hK18 => ?_
        refine Tri.block ?_
        refine Tri.seq fun K19 hK19 => ?_
        refine Tri.region ?_
        refine st (OK1.mv (Has.t rfl)) rfl ?_
        refine st (OK1.ixP sl41 ty28 (Has.t rfl) (Has.t rfl) ⟨by omega, by omega⟩ (getD_some (d := 0) (by first | omega | (simp only [Int.toNat_natCast, List.length_set]; omega)))) rfl ?_
        refine st (OK1.loadP1 (Has.t rfl) ty28) rfl ?_
        refine st (OK1.as (Has.t rfl)) rfl ?_
        refine st (OK1.as (Has.t rfl)) rfl ?_
        refine nl ?_
        refine At.thn (hK19 _ _ ?_); clear hK19
        refine Tri.dr ?_
        refine DrG.st (i := 0) [] rfl rfl rfl (by kernel_rfl) (OKG.o rfl (OK1.mv (Has.t rfl))) ?_
        refine DrG.st (i := 1) [] rfl rfl rfl (by kernel_rfl) (OKG.o rfl (OK1.mv (Has.t rfl))) ?_
        refine DrG.st (i := 2) [] rfl rfl rfl (by kernel_rfl) (OKG.o rfl (OK1.mv (Has.t rfl))) ?_
        refine DrG.st (i := 3) [48, 49] rfl rfl rfl (by kernel_rfl) (OKG.o rfl (OK1.eq (OK1.addI (Has.t rfl) (Has.t rfl) (by first | omega | assumption) (by first | omega | assumption)) ((show isI _ = isI ((i + k : Nat) : Int) from isI_eq (by omega))))) ?_
        refine DrG.st (i := 4) [] rfl rfl rfl (by kernel_rfl) (OKG.o rfl (OK1.load (Has.t rfl) (i := 1) rfl ty30 rfl (Ss' := [_]) rfl)) ?_
        refine DrG.st (i := 5) [] rfl rfl rfl (by kernel_rfl) (OKG.o rfl (OK1.mv (Has.t rfl))) ?_
        refine DrG.st (i := 6) [] rfl rfl rfl (by kernel_rfl) (OKG.o rfl (OK1.mv (Has.t rfl))) ?_
        refine DrG.st (i := 7) [] rfl rfl rfl (by kernel_rfl) (OKG.o rfl (OK1.mv (Has.t rfl))) ?_
        refine DrG.st (i := 8) [53, 54] rfl rfl rfl (by kernel_rfl) (OKG.o rfl (OK1.eq (OK1.addI (Has.t rfl) (Has.t rfl) (by first | omega | assumption) (by first | omega | assumption)) ((show isI _ = isI ((i + k : Nat) : Int) from isI_eq (by omega))))) ?_
        refine DrG.st (i := 9) [52, 55] rfl rfl rfl (by kernel_rfl) (OKG.o rfl (OK1.eq (OK1.ixWin sl41 ty28 (Has.t rfl) (Has.t rfl) ⟨by omega, by omega⟩) (isPtr_eq (by first | exact ixo0 | exact ixo2 | exact ixo1)))) ?_
        refine DrG.st (i := 10) [56] rfl rfl rfl (by kernel_rfl) (OKG.o rfl (OK1.load1 (Has.t rfl) (i := 0) rfl ty28 (map_some (rwU_get (fp q) (show i + k < A.length + B.length - 1 by omega))))) ?_
        refine DrG.st (i := 11) [] rfl rfl rfl (by kernel_rfl) (OKG.o rfl (OK1.load (Has.t rfl) (i := 1) rfl ty30 rfl (Ss' := [_]) rfl)) ?_
        refine DrG.st (i := 12) [] rfl rfl rfl (by kernel_rfl) (OKG.o rfl (OK1.mv (Has.t rfl))) ?_
        refine DrG.st (i := 13) [] rfl rfl rfl (by kernel_rfl) (OKG.o rfl (OK1.mv (Has.t rfl))) ?_
        refine DrG.st (i := 14) [58, 59, 60] rfl rfl rfl (by kernel_rfl) (OKG.o rfl (OK1.call (gfp_Mul hq) (.cons (Has.t rfl) (.cons (Has.t rfl) (.cons (Has.t rfl) .nil))))) ?_
        refine DrG.st (i := 15) [51, 57, 61] rfl rfl rfl (by kernel_rfl) (OKG.o rfl (OK1.call (gfp_Add hq) (.cons (Has.t rfl) (.cons (Has.t rfl) (.cons (Has.t rfl) .nil))))) ?_
        refine DrG.fin (n := 16) mixed (by kernel_rfl) (by kernel_rfl) (by kernel_rfl) ?_
        refine Ops.cv (Cv.wk (.cons (t := 2) (Has.t rfl) (.cons (t := 3) (Has.t rfl) (.cons (t := 6) (Has.t rfl) (.cons (t := 7) (Has.t rfl) (.cons (t := 33) (Has.t rfl) (.cons (t := 34) (Has.t rfl) (.cons (t := 35) (Has.t rfl) (.cons (t := 36) (Has.t rfl) (.cons (t := 37) (Has.t rfl) (.cons (t := 38) (Has.t rfl) (.cons (t := 39) (Has.t rfl) (.cons (t := 8) (Has.t rfl) (.cons (t := 9) (Has.t rfl) (.cons (t := 40) (Has.t rfl) (.cons (t := 41) (Has.t rfl) (.cons (t := 42) (Has.t rfl) (.cons (t := 43) (Has.t rfl) (.cons (t := 44) (Has.t rfl) (.cons (t := 45) (Has.t rfl) (.cons (t := 46) (Has.t rfl) (.cons (t := 10) (Has.t rfl) (.cons (t := 11) (Has.t rfl) (.cons (t := 47) (Has.t rfl) (.cons (t := 48) (Has.t rfl) (.cons (t := 49) (Has.t rfl) (.cons (t := 50) (Has.t rfl) (.cons (t := 51) (Has.t rfl) (.cons (t := 52) (Has.t rfl) (.cons (t := 53) (Has.t rfl) (.cons (t := 54) (Has.t rfl) (.cons (t := 55) (Has.t rfl) (.cons (t := 56) (Has.t rfl) (.cons (t := 57) (Has.t rfl) (.cons (t := 58) (Has.t rfl) (.cons (t := 59) (Has.t rfl) (.cons (t := 60) (Has.t rfl) (.cons (t := 61) (Has.t rfl) (.cons (t := 62) (Has.t rfl) .nil))))))))))))))))))))))))))))))))))))))) ?_
        refine st (OK1.eq (OK1.ixWin sl41 ty28 (Has.t rfl) (Has.t rfl) ⟨by omega, by omega⟩) (isPtr_eq (by first | exact ixo0 | exact ixo2 | exact ixo1))) rfl ?_
        refine Ops.storeM (Has.t rfl) (Has.t rfl) (i := 0) rfl ty28 (by rw [rwU_len]; show i + k < _; omega) (M' := [(_, _), _]) rfl ?_
        refine nl ?_
        refine At.bln ?_
        refine At.thn (hK18 _ _ ?_); clear hK18
        refine Tri.region ?_
        refine st (OK1.addI (Has.t rfl) (Has.cI 1 rfl) (by first | omega | assumption) (by first | omega | assumption)) rfl ?_
        refine st (OK1.mv (Has.t rfl)) rfl ?_
        refine nl ?_
        refine At.thn ?_
        refine hK15 (⟨k + 1, by omega⟩) _ _ ?_ (Cv.mem (.cons (t := 42) (Has.t' rfl ?_) (.cons (t := 2) (Has.t rfl) (.cons (t := 3) (Has.t rfl) (.cons (t := 6) (Has.t rfl) (.cons (t := 7) (Has.t rfl) (.cons (t := 33) (Has.t rfl) (.cons (t := 34) (Has.t rfl) (.cons (t := 35) (Has.t rfl) (.cons (t := 36) (Has.t rfl) (.cons (t := 37) (Has.t rfl) (.cons (t := 38) (Has.t rfl) (.cons (t := 39) (Has.t rfl) (.cons (t := 8) (Has.t rfl) (.cons (t := 9) (Has.t rfl) (.cons (t := 40) (Has.t rfl) (.cons (t := 41) (Has.t rfl) .nil)))))))))))))))) ?_)
        · show B.length - (k + 1) < B.length - k; omega
        · exact isI_eq (by omega)
        · exact memL_eq (rwU_set hp (by omega))
      · have hc3 := BP.f hc3
        refine Tri.exit ?_
        refine At.the ?_
        refine At.the ?_
        refine At.blh ?_
        refine At.bln ?_
        refine At.thn (hK12 _ _ ?_); clear hK12
        refine Tri.region ?_
        refine st (OK1.addI (Has.t rfl) (Has.cI 1 rfl) (by first | omega | assumption) (by first | omega | assumption)) rfl ?_
        refine st (OK1.mv (Has.t rfl)) rfl ?_
        refine nl ?_
        refine At.thn ?_
        obtain rfl : k = B.length := by omega
        refine hK9 (⟨i + 1, by omega⟩) _ _ ?_ (Cv.mem (.cons (t := 35) (Has.t' rfl ?_) (.cons (t := 2) (Has.t rfl) (.cons (t := 3) (Has.t rfl) (.cons (t := 6) (Has.t rfl) (.cons (t := 7) (Has.t rfl) (.cons (t := 33) (Has.t rfl) (.cons (t := 34) (Has.t rfl) .nil))))))) ?_)
        · show A.length - (i + 1) < A.length - i; omega
        · exact isI_eq (by omega)
        · exact memL_eq (rwU_next _ _ _ _)
    · have hc2 := BP.f hc2
      refine Tri.exit ?_
      refine At.the ?_
      refine At.the ?_
      refine At.blh ?_
      refine At.thn (hK7 _ _ ?_); clear hK7
      refine Tri.cv (Cv.wk (.cons (t := 3) (Has.t rfl) (.cons (t := 6) (Has.t rfl) (.cons (t := 7) (Has.t rfl) .nil)))) ?_
      refine Tri.seq fun K20 hK20 => ?_
      refine Tri.cv (Cv.freeze' (t := 7) (i := 0) (ys := rwU (fp q) A B A.length 0) rfl rfl rfl (by rw [rwU_len]; omega) (by rw [List.drop_zero, List.take_of_length_le (by rw [rwU_len]; omega), show i = A.length by omega])) ?_
      refine Tri.memEq (M' := [_]) rfl ?_
      refine Tri.cv (Cv.wk (.cons (t := 3) (Has.t rfl) (.cons (t := 6) (Has.t rfl) (.cons (t := 7) (Has.t rfl) .nil)))) ?_
      refine Tri.region ?_
      refine st (OK1.load (Has.t rfl) (i := 0) rfl ty30 rfl (Ss' := [_]) rfl) rfl ?_
      refine st (OK1.mv (Has.t rfl)) rfl ?_
      refine st (OK1.call (fpoly_Norm (by rw [rwU_len]; omega)) (.cons (Has.t rfl) (.cons (Has.t rfl) .nil))) rfl ?_
      refine st (OK1.as (Has.t rfl)) rfl ?_
      refine nl ?_
      refine At.thn (hK20 _ _ ?_); clear hK20
      refine Tri.cv (Cv.wk (.cons (t := 6) (Has.t rfl) .nil)) ?_
      refine Tri.ret ?_
      refine rt1 (.inl rfl) Tryz.results57 rfl (.tmp (Has.t' rfl ?_) .nil)
      all_goals (exact SlM_eq (mul_nrm hp hA hB))
set_option maxHeartbeats 4000000 in
theorem ref09_Same {xs ys : List Nat} : Ctr Tryz.prog 11 [isWords xs, isWords ys] (isB (decide (xs = ys))) := by
  refine Ctr.intro Tryz.func11 rfl (by kernel_rfl) Tryz.ntmps11 rfl fun w0 F0 => ?_
  refine Tri.cv (Cv.wk (.cons (t := 0) (Has.t rfl) (.cons (t := 1) (Has.t rfl) .nil))) ?_
  refine Tri.fact (Has.lenLt (Has.t (t := 0) rfl)) fun lt0 => ?_
  refine Tri.fact (Has.okW (Has.t (t := 0) rfl)) fun ok0 => ?_
  refine Tri.fact (Has.lenLt (Has.t (t := 1) rfl)) fun lt1 => ?_
  refine Tri.fact (Has.okW (Has.t (t := 1) rfl)) fun ok1 => ?_
  refine Tri.seq fun K1 hK1 => ?_
  refine Tri.region ?_
  refine st (OK1.as (Has.cB false)) rfl ?_
  refine nl ?_
  refine At.thn (hK1 _ _ ?_); clear hK1
  refine Tri.seq fun K2 hK2 => ?_
  refine Tri.seq fun K3 hK3 => ?_
  refine Tri.region ?_
  refine st (OK1.mv (Has.t rfl)) rfl ?_
  refine st (OK1.len sl36 (Has.t rfl)) rfl ?_
  refine st (OK1.mv (Has.t rfl)) rfl ?_
  refine st (OK1.len sl36 (Has.t rfl)) rfl ?_
  refine st (OK1.neI (Has.t rfl) (Has.t rfl)) rfl ?_
  refine nl ?_
  refine At.thn (hK3 _ _ ?_); clear hK3
  refine Tri.cond (Has.t rfl) (fun hc1 => ?_) (fun hc1 => ?_)
  · have hc1 := BP.t hc1
    have HL := hc1
    refine Tri.seq fun K4 hK4 => ?_
    refine Tri.region ?_
    refine st (OK1.as (Has.cB false)) rfl ?_
    refine nl ?_
    refine At.thn (hK4 _ _ ?_); clear hK4
    refine Tri.cv (Cv.wk (.cons (t := 0) (Has.t rfl) (.cons (t := 1) (Has.t rfl) (.cons (t := 4) (Has.t rfl) .nil)))) ?_
    refine Tri.ret ?_
    refine At.thr ?_
    refine rt1 (.inl rfl) Tryz.results11 rfl (.tmp (Has.t' rfl ?_) .nil)
    all_goals (exact isB_eq (decide_eq_false fun h => by rw [h] at HL; omega).symm)
  · have hc1 := BP.f hc1
    have hll : xs.length = ys.length := (by omega)
    refine Tri.skip ?_
    refine At.thn (hK2 _ _ ?_); clear hK2
    refine Tri.cv (Cv.wk (.cons (t := 0) (Has.t rfl) (.cons (t := 1) (Has.t rfl) (.cons (t := 4) (Has.t rfl) .nil)))) ?_
    refine Tri.seq fun K5 hK5 => ?_
    refine Tri.seq fun K6 hK6 => ?_
    refine Tri.region ?_
    refine st (OK1.as (Has.cI 0 rfl)) rfl ?_
    refine nl ?_
    refine At.thn (hK6 _ _ ?_); clear hK6
    refine Tri.block ?_
    refine Tri.loopF [0, 1] (fun (z : { i : Nat // i ≤ xs.length ∧ ∀ j, j < i → xs.getD j 0 = ys.getD j 0 }) => match z with | ⟨i, hI⟩ => [(5, isI (i : Int))]) (fun M => fun (z : { i : Nat // i ≤ xs.length ∧ ∀ j, j < i → xs.getD j 0 = ys.getD j 0 }) => match z with | ⟨i, hI⟩ => M) (fun (z : { i : Nat // i ≤ xs.length ∧ ∀ j, j < i → xs.getD j 0 = ys.getD j 0 }) => match z with | ⟨i, hI⟩ => xs.length - i) (⟨0, Nat.zero_le _, fun j h => absurd h (Nat.not_lt_zero _)⟩) (Cv.mem (.cons (t := 5) (Has.t' rfl ?_) (.cons (t := 0) (Has.t rfl) (.cons (t := 1) (Has.t rfl) .nil))) ?_) ?_
    · rfl
    · rfl
    rintro ⟨i, hi, hj⟩ K7 hK7
    refine Tri.cv (Cv.wk (.cons (t := 5) (Has.t rfl) (.cons (t := 0) (Has.t rfl) (.cons (t := 1) (Has.t rfl) .nil)))) ?_
    refine Tri.seq fun K8 hK8 => ?_
    refine Tri.seq fun K9 hK9 => ?_
    refine Tri.region ?_
    refine st (OK1.mv (Has.t rfl)) rfl ?_
    refine st (OK1.mv (Has.t rfl)) rfl ?_
    refine st (OK1.len sl36 (Has.t rfl)) rfl ?_
    refine st (OK1.ltI (Has.t rfl) (Has.t rfl)) rfl ?_
    refine nl ?_
    refine At.thn (hK9 _ _ ?_); clear hK9
    refine Tri.cond (Has.t rfl) (fun hc2 => ?_) (fun hc2 => ?_)
    · have hc2 := BP.t hc2
      refine Tri.skip ?_
      refine At.thn (hK8 _ _ ?_); clear hK8
      refine Tri.seq fun K10 hK10 => ?_
      refine Tri.block ?_
      refine Tri.seq fun K11 hK11 => ?_
      refine Tri.dr ?_
      refine DrG.st (i := 0) [] rfl rfl rfl (by kernel_rfl) (OKG.o rfl (OK1.mv (Has.t rfl))) ?_
      refine DrG.st (i := 1) [] rfl rfl rfl (by kernel_rfl) (OKG.o rfl (OK1.mv (Has.t rfl))) ?_
      refine DrG.st (i := 2) [17, 18] rfl rfl rfl (by kernel_rfl) (OKG.o rfl (OK1.ixP sl36 ty28 (Has.t rfl) (Has.t rfl) ⟨by omega, by omega⟩ (getD_some (d := 0) (by first | omega | (simp only [Int.toNat_natCast, List.length_set]; omega))))) ?_
      refine DrG.st (i := 3) [19] rfl rfl rfl (by kernel_rfl) (OKG.o rfl (OK1.eq (OK1.loadP1 (Has.t rfl) ty28) ((show isU _ = isU (xs.getD i 0) from isU_eq rfl)))) ?_
      refine DrG.st (i := 4) [] rfl rfl rfl (by kernel_rfl) (OKG.o rfl (OK1.mv (Has.t rfl))) ?_
      refine DrG.st (i := 5) [] rfl rfl rfl (by kernel_rfl) (OKG.o rfl (OK1.mv (Has.t rfl))) ?_
      refine DrG.st (i := 6) [21, 22] rfl rfl rfl (by kernel_rfl) (OKG.o rfl (OK1.ixP sl36 ty28 (Has.t rfl) (Has.t rfl) ⟨by omega, by omega⟩ (getD_some (d := 0) (by first | omega | (simp only [Int.toNat_natCast, List.length_set]; omega))))) ?_
      refine DrG.st (i := 7) [23] rfl rfl rfl (by kernel_rfl) (OKG.o rfl (OK1.eq (OK1.loadP1 (Has.t rfl) ty28) ((show isU _ = isU (ys.getD i 0) from isU_eq rfl)))) ?_
      refine DrG.fin (n := 8) mixed (by kernel_rfl) (by kernel_rfl) (by kernel_rfl) ?_
      refine Ops.cv (Cv.wk (.cons (t := 0) (Has.t rfl) (.cons (t := 1) (Has.t rfl) (.cons (t := 5) (Has.t rfl) (.cons (t := 11) (Has.t rfl) (.cons (t := 12) (Has.t rfl) (.cons (t := 13) (Has.t rfl) (.cons (t := 14) (Has.t rfl) (.cons (t := 17) (Has.t rfl) (.cons (t := 18) (Has.t rfl) (.cons (t := 19) (Has.t rfl) (.cons (t := 20) (Has.t rfl) (.cons (t := 21) (Has.t rfl) (.cons (t := 22) (Has.t rfl) (.cons (t := 23) (Has.t rfl) (.cons (t := 24) (Has.t rfl) .nil)))))))))))))))) ?_
      refine st (OK1.neU (Has.t rfl) (Has.t rfl)) rfl ?_
      refine nl ?_
      refine At.thn (hK11 _ _ ?_); clear hK11
      refine Tri.cond (Has.t rfl) (fun hc3 => ?_) (fun hc3 => ?_)
      · have hc3 := BP.t hc3
        have HQ := hc3
        refine Tri.seq fun K12 hK12 => ?_
        refine Tri.region ?_
        refine st (OK1.as (Has.cB false)) rfl ?_
        refine nl ?_
        refine At.thn (hK12 _ _ ?_); clear hK12
        refine Tri.ret ?_
        refine At.blr ?_
        refine At.thr ?_
        refine At.thr ?_
        refine At.blr ?_
        refine At.thr ?_
        refine rt1 (.inl rfl) Tryz.results11 rfl (.tmp (Has.t' rfl ?_) .nil)
        all_goals (exact isB_eq (decide_eq_false fun h => HQ (by rw [h])).symm)
      · have hc3 := BP.f hc3
        have HQ : xs.getD i 0 = ys.getD i 0 := Classical.not_not.1 (by simpa using hc3)
        refine Tri.skip ?_
        refine At.bln ?_
        refine At.thn (hK10 _ _ ?_); clear hK10
        refine Tri.region ?_
        refine st (OK1.mv (Has.t rfl)) rfl ?_
        refine st (OK1.addI (Has.t rfl) (Has.cI 1 rfl) (by first | omega | assumption) (by first | omega | assumption)) rfl ?_
        refine st (OK1.as (Has.t rfl)) rfl ?_
        refine nl ?_
        refine At.thn ?_
        refine hK7 (⟨i + 1, by omega, fun j h => by rcases Nat.lt_or_ge j i with h2 | h2; exact hj j h2; rw [show j = i by omega]; exact HQ⟩) _ _ ?_ (Cv.mem (.cons (t := 5) (Has.t' rfl ?_) (.cons (t := 0) (Has.t rfl) (.cons (t := 1) (Has.t rfl) .nil))) ?_)
        · show xs.length - (i + 1) < xs.length - i; omega
        · exact isI_eq (by omega)
        · rfl
    · have hc2 := BP.f hc2
      refine Tri.exit ?_
      refine At.the ?_
      refine At.the ?_
      refine At.blh ?_
      refine At.thn (hK5 _ _ ?_); clear hK5
      refine Tri.cv (Cv.wk .nil) ?_
      refine Tri.seq fun K13 hK13 => ?_
      refine Tri.region ?_
      refine st (OK1.as (Has.cB true)) rfl ?_
      refine nl ?_
      refine At.thn (hK13 _ _ ?_); clear hK13
      refine Tri.ret ?_
      refine rt1 (.inl rfl) Tryz.results11 rfl (.tmp (Has.t' rfl ?_) .nil)
      all_goals (exact isB_eq (decide_eq_true (eqL hll fun j h => hj j (by omega))).symm)
set_option maxHeartbeats 4000000 in
theorem law09_OfR {n : Nat} : Ctr Tryz.prog 7 [isK .u8 (n : Int)] (Flat [isU (ptab (n % 12))]) := by
  refine Ctr.intro Tryz.func7 rfl (by kernel_rfl) Tryz.ntmps7 rfl fun w0 F0 => ?_
  refine Tri.cv (Cv.wk (.cons (t := 0) (Has.t rfl) .nil)) ?_
  refine Tri.seq fun K1 hK1 => ?_
  refine Tri.region ?_
  refine Ops.alloc [isU 0] zero30 (fun _ _ => ⟨⟨rfl, by decide⟩, trivial⟩) rfl fun b1 => ?_
  refine nl ?_
  refine At.thn (hK1 _ _ ?_); clear hK1
  refine Tri.seq fun K2 hK2 => ?_
  refine Tri.region ?_
  refine st (OK1.mv (Has.t rfl)) rfl ?_
  refine st (OK1.call ref08_P (.cons (Has.t rfl) .nil)) rfl ?_
  refine st (OK1.call (gfp_New_yes (ptab_pr _)) (.cons (Has.t rfl) .nil)) rfl ?_
  refine st (OK1.mv (Has.t rfl)) rfl ?_
  refine st (OK1.ext (Has.t rfl) rfl) rfl ?_
  refine st (OK1.ext (Has.t rfl) rfl) rfl ?_
  refine Ops.alloc [isU 0] zero30 (fun _ _ => ⟨⟨rfl, by decide⟩, trivial⟩) rfl fun b2 => ?_
  refine Ops.store (Has.t rfl) (Has.t rfl) (i := 0) rfl ty30 rfl rfl (Ss' := [_]) rfl (M' := [(some _, cellM [_]), _]) rfl ?_
  refine st (OK1.as (Has.t rfl)) rfl ?_
  refine nl ?_
  refine At.thn (hK2 _ _ ?_); clear hK2
  refine Tri.cv (Cv.wk (.cons (t := 2) (Has.t rfl) (.cons (t := 3) (Has.t rfl) .nil))) ?_
  refine Tri.seq fun K3 hK3 => ?_
  refine Tri.region ?_
  refine st (OK1.load (Has.t rfl) (i := 0) rfl ty30 rfl (Ss' := [_]) rfl) rfl ?_
  refine Ops.store (Has.t rfl) (Has.t rfl) (i := 1) rfl ty30 rfl rfl (Ss' := [_]) rfl (M' := [_, (some _, cellM [_])]) rfl ?_
  refine nl ?_
  refine At.thn (hK3 _ _ ?_); clear hK3
  refine Tri.ret ?_
  refine rt1 (.inl rfl) Tryz.results7 rfl (.cell rfl (i := 1) rfl ty30 rfl ?_ .nil)
  all_goals (rfl)
end Go.Proofs.YtkgipdidomikbaaGreat
/- Contracts: the polynomial, row by row. -/
namespace Go.Proofs.YtkgipdidomikbaaGreat
open Go.En Go.RowKit
set_option linter.unusedVariables false
set_option maxRecDepth 10000
open Go.Gf
open Go.Mz
open Go.Mu
open Go.Nt
open Go.Hs
open Go.Pz
open Go.Po
set_option maxHeartbeats 4000000 in
theorem fpoly_Sub {q : Nat} {xs ys : List Nat} (hq : q < 4294967296) (hn : xs.length ≤ 1000000) (hm : ys.length ≤ 1000000) : Ctr Tryz.prog 60 [Flat [isU q], isWords xs, isWords ys] (isWords (nrm (fp q) (radd (zi xs) (rmul [-1] (zi ys))))) := by
  refine Ctr.intro Tryz.func60 rfl (by kernel_rfl) Tryz.ntmps60 rfl fun w0 F0 => ?_
  refine Tri.cv (Cv.wk (.cons (t := 0) (Has.t rfl) (.cons (t := 1) (Has.t rfl) (.cons (t := 2) (Has.t rfl) .nil)))) ?_
  refine Tri.fact (Has.lenLt (Has.t (t := 1) rfl)) fun lt1 => ?_
  refine Tri.fact (Has.okW (Has.t (t := 1) rfl)) fun ok1 => ?_
  refine Tri.fact (Has.lenLt (Has.t (t := 2) rfl)) fun lt2 => ?_
  refine Tri.fact (Has.okW (Has.t (t := 2) rfl)) fun ok2 => ?_
  refine Tri.seq fun K1 hK1 => ?_
  refine Tri.region ?_
  refine Ops.box (Has.t rfl) rfl fun b1 => ?_
  refine st (OK1.as (Has.cW (f := isU))) rfl ?_
  refine nl ?_
  refine At.thn (hK1 _ _ ?_); clear hK1
  refine Tri.seq fun K2 hK2 => ?_
  refine Tri.region ?_
  refine st (OK1.load (Has.t rfl) (i := 0) rfl ty30 rfl (Ss' := [_]) rfl) rfl ?_
  refine st (OK1.mv (Has.t rfl)) rfl ?_
  refine st (OK1.mv (Has.t rfl)) rfl ?_
  refine st (OK1.load (Has.t rfl) (i := 0) rfl ty30 rfl (Ss' := [_]) rfl) rfl ?_
  refine st (OK1.makeFn (ι := Nat × Nat) (As := fun p => [isU p.1, isU p.2]) (R := fun p => isU ((p.1 % fp q + fp q - p.2 % fp q) % fp q)) (fun p => gfp_Sub hq) (.cons (Has.t rfl) .nil) .nil) rfl ?_
  refine st (OK1.call (fpoly_both (op := fun x y => (x % fp q + fp q - y % fp q) % fp q) hn hm) (.cons (Has.t rfl) (.cons (Has.t rfl) (.cons (Has.t rfl) (.cons (Has.t rfl) .nil))))) rfl ?_
  refine st (OK1.as (Has.t rfl)) rfl ?_
  refine nl ?_
  refine At.thn (hK2 _ _ ?_); clear hK2
  refine Tri.cv (Cv.wk (.cons (t := 6) (Has.t rfl) .nil)) ?_
  refine Tri.ret ?_
  refine rt1 (.inl rfl) Tryz.results60 rfl (.tmp (Has.t' rfl ?_) .nil)
  all_goals (exact SlM_eq (sub_nrm (fp_pos q) _ _))
set_option maxHeartbeats 4000000 in
theorem fpoly_Scale {q c : Nat} {xs : List Nat} (hq : q < 4294967296) (hn : xs.length ≤ 1000000) : Ctr Tryz.prog 61 [Flat [isU q], isWords xs, isU c] (isWords (nrm (fp q) (rmul (zi xs) [(c : Int)]))) := by
  refine Ctr.intro Tryz.func61 rfl (by kernel_rfl) Tryz.ntmps61 rfl fun w0 F0 => ?_
  refine Tri.cv (Cv.wk (.cons (t := 0) (Has.t rfl) (.cons (t := 1) (Has.t rfl) (.cons (t := 2) (Has.t rfl) .nil)))) ?_
  refine Tri.fact (Has.lenLt (Has.t (t := 1) rfl)) fun lt1 => ?_
  refine Tri.fact (Has.okW (Has.t (t := 1) rfl)) fun ok1 => ?_
  refine Tri.fact (Has.ltU (Has.t (t := 2) rfl)) fun lt2 => ?_
  have hsl := sclU_len (fp q) xs c
  refine Tri.seq fun K1 hK1 => ?_
  refine Tri.region ?_
  refine Ops.box (Has.t rfl) rfl fun b1 => ?_
  refine st (OK1.as (Has.cW (f := isU))) rfl ?_
  refine nl ?_
  refine At.thn (hK1 _ _ ?_); clear hK1
  refine Tri.seq fun K2 hK2 => ?_
  refine Tri.region ?_
  refine st (OK1.mv (Has.t rfl)) rfl ?_
  refine st (OK1.len sl41 (Has.t rfl)) rfl ?_
  refine Ops.make (f := isU) (u := 0) (n := xs.length) (c := xs.length) sl41 ty28 zero28 (fun _ _ => ⟨⟨rfl, by decide⟩, trivial⟩) by28 (Has.t' rfl rfl) (Has.t' rfl rfl) ⟨by omega, by omega⟩ rfl fun b2 => ?_
  refine st (OK1.as (Has.t rfl)) rfl ?_
  refine nl ?_
  refine At.thn (hK2 _ _ ?_); clear hK2
  refine Tri.seq fun K3 hK3 => ?_
  refine Tri.seq fun K4 hK4 => ?_
  refine Tri.region ?_
  refine st (OK1.mv (Has.t rfl)) rfl ?_
  refine st (OK1.len sl41 (Has.t rfl)) rfl ?_
  refine st (OK1.mv (Has.cI 0 rfl)) rfl ?_
  refine nl ?_
  refine At.thn (hK4 _ _ ?_); clear hK4
  refine Tri.cv (Cv.wk (.cons (t := 2) (Has.t rfl) (.cons (t := 3) (Has.t rfl) (.cons (t := 6) (Has.t rfl) (.cons (t := 7) (Has.t rfl) (.cons (t := 13) (Has.t rfl) (.cons (t := 14) (Has.t rfl) (.cons (t := 15) (Has.t rfl) .nil)))))))) ?_
  refine Tri.block ?_
  refine Tri.loopF [2, 3, 6, 7, 13, 14] (fun (z : { i : Nat // i ≤ xs.length }) => match z with | ⟨i, hi⟩ => [(15, isI (i : Int))]) (fun M => fun (z : { i : Nat // i ≤ xs.length }) => match z with | ⟨i, hi⟩ => [(some b2, cellM ((fill (sclU (fp q) xs c) i 0).map isU)), (some b1, cellM [isU q])]) (fun (z : { i : Nat // i ≤ xs.length }) => match z with | ⟨i, hi⟩ => xs.length - i) (⟨0, Nat.zero_le _⟩) (Cv.mem (.cons (t := 15) (Has.t' rfl ?_) (.cons (t := 2) (Has.t rfl) (.cons (t := 3) (Has.t rfl) (.cons (t := 6) (Has.t rfl) (.cons (t := 7) (Has.t rfl) (.cons (t := 13) (Has.t rfl) (.cons (t := 14) (Has.t rfl) .nil))))))) ?_) ?_
  · rfl
  · exact memL_eq (by rw [fill_zero, hsl])
  rintro ⟨i, hi⟩ K5 hK5
  refine Tri.cv (Cv.wk (.cons (t := 15) (Has.t rfl) (.cons (t := 2) (Has.t rfl) (.cons (t := 3) (Has.t rfl) (.cons (t := 6) (Has.t rfl) (.cons (t := 7) (Has.t rfl) (.cons (t := 13) (Has.t rfl) (.cons (t := 14) (Has.t rfl) .nil)))))))) ?_
  refine Tri.memEq (M' := [(some b2, cellM ((fill (sclU (fp q) xs c) i 0).map isU)), (some b1, cellM [isU q])]) rfl ?_
  refine Tri.seq fun K6 hK6 => ?_
  refine Tri.region ?_
  refine st (OK1.ltI (Has.t rfl) (Has.t rfl)) rfl ?_
  refine nl ?_
  refine At.thn (hK6 _ _ ?_); clear hK6
  refine Tri.seq fun K7 hK7 => ?_
  refine Tri.cond (Has.t rfl) (fun hc1 => ?_) (fun hc1 => ?_)
  · have hc1 := BP.t hc1
    refine Tri.skip ?_
    refine At.thn (hK7 _ _ ?_); clear hK7
    refine Tri.seq fun K8 hK8 => ?_
    refine Tri.block ?_
    refine Tri.seq fun K9 hK9 => ?_
    refine Tri.region ?_
    refine st (OK1.mv (Has.t rfl)) rfl ?_
    refine st (OK1.ixP sl41 ty28 (Has.t rfl) (Has.t rfl) ⟨by omega, by omega⟩ (getD_some (d := 0) (by first | omega | (simp only [Int.toNat_natCast, List.length_set]; omega)))) rfl ?_
    refine st (OK1.eq (OK1.loadP1 (Has.t rfl) ty28) ((show isU _ = isU (xs.getD i 0) from isU_eq rfl))) rfl ?_
    refine st (OK1.as (Has.t rfl)) rfl ?_
    refine st (OK1.as (Has.t rfl)) rfl ?_
    refine nl ?_
    refine At.thn (hK9 _ _ ?_); clear hK9
    refine Tri.region ?_
    refine st (OK1.mv (Has.t rfl)) rfl ?_
    refine st (OK1.mv (Has.t rfl)) rfl ?_
    refine st (OK1.load (Has.t rfl) (i := 1) rfl ty30 rfl (Ss' := [_]) rfl) rfl ?_
    refine st (OK1.mv (Has.t rfl)) rfl ?_
    refine st (OK1.mv (Has.t rfl)) rfl ?_
    refine st (OK1.call (gfp_Mul hq) (.cons (Has.t rfl) (.cons (Has.t rfl) (.cons (Has.t rfl) .nil)))) rfl ?_
    refine st (OK1.eq (OK1.ixWin sl41 ty28 (Has.t rfl) (Has.t rfl) ⟨by omega, by omega⟩) (isPtr_eq (by first | exact ixo0 | exact ixo2 | exact ixo1))) rfl ?_
    refine Ops.storeM (Has.t rfl) (Has.t rfl) (i := 0) rfl ty28 (by rw [fill_len _ _ _ (by omega), hsl]; simp only [Int.toNat_natCast]; omega) (M' := [(_, _), _]) rfl ?_
    refine nl ?_
    refine At.bln ?_
    refine At.thn (hK8 _ _ ?_); clear hK8
    refine Tri.region ?_
    refine st (OK1.addI (Has.t rfl) (Has.cI 1 rfl) (by first | omega | assumption) (by first | omega | assumption)) rfl ?_
    refine st (OK1.mv (Has.t rfl)) rfl ?_
    refine nl ?_
    refine At.thn ?_
    refine hK5 (⟨i + 1, by omega⟩) _ _ ?_ (Cv.mem (.cons (t := 15) (Has.t' rfl ?_) (.cons (t := 2) (Has.t rfl) (.cons (t := 3) (Has.t rfl) (.cons (t := 6) (Has.t rfl) (.cons (t := 7) (Has.t rfl) (.cons (t := 13) (Has.t rfl) (.cons (t := 14) (Has.t rfl) .nil))))))) ?_)
    · show xs.length - (i + 1) < xs.length - i; omega
    · exact isI_eq (by omega)
    · exact memL_eq (fill_set _ _ _ _ (sclU_get _ (by omega)))
  · have hc1 := BP.f hc1
    refine Tri.exit ?_
    refine At.the ?_
    refine At.the ?_
    refine At.blh ?_
    refine At.thn (hK3 _ _ ?_); clear hK3
    refine Tri.cv (Cv.wk (.cons (t := 3) (Has.t rfl) (.cons (t := 6) (Has.t rfl) (.cons (t := 7) (Has.t rfl) .nil)))) ?_
    refine Tri.seq fun K10 hK10 => ?_
    refine Tri.cv (Cv.freeze' (t := 7) (i := 0) (ys := sclU (fp q) xs c) rfl rfl rfl (by rw [fill_len _ _ _ (by omega), hsl]; omega) (fill_done (by omega) (by omega))) ?_
    refine Tri.memEq (M' := [_]) rfl ?_
    refine Tri.cv (Cv.wk (.cons (t := 3) (Has.t rfl) (.cons (t := 6) (Has.t rfl) (.cons (t := 7) (Has.t rfl) .nil)))) ?_
    refine Tri.region ?_
    refine st (OK1.load (Has.t rfl) (i := 0) rfl ty30 rfl (Ss' := [_]) rfl) rfl ?_
    refine st (OK1.mv (Has.t rfl)) rfl ?_
    refine st (OK1.call (fpoly_Norm (by rw [sclU_len]; omega)) (.cons (Has.t rfl) (.cons (Has.t rfl) .nil))) rfl ?_
    refine st (OK1.as (Has.t rfl)) rfl ?_
    refine nl ?_
    refine At.thn (hK10 _ _ ?_); clear hK10
    refine Tri.cv (Cv.wk (.cons (t := 6) (Has.t rfl) .nil)) ?_
    refine Tri.ret ?_
    refine rt1 (.inl rfl) Tryz.results61 rfl (.tmp (Has.t' rfl ?_) .nil)
    all_goals (exact SlM_eq (scl_nrm _ _ _))
set_option maxHeartbeats 4000000 in
theorem hess_next {q n k : Nat} {σ H P : List Nat} {gl : Gr (List Nat)} {ls : List (List Int)} (hq : q < 4294967296) (hS : SV n σ) (hH : H.length = n * n) (hk : k < n) (hn : n ≤ 64) (hls : ls.length = k + 1) (hB : ∀ j, (ls.getD j []).length ≤ 1000) (hp2 : 2 ≤ fp q) : CtrX Tryz.prog 29 [wkFH q n σ H P, isGr gl (ls.map (nrm (fp q))).length] ([grM isWs gl (ls.map (nrm (fp q)))]) (fun S M => S = isWords (nrm (fp q) (wst (zm (hu n σ H)) ls k k).1) ∧ M = [grM isWs gl (ls.map (nrm (fp q)))]) := by
  refine CtrX.intro Tryz.func29 rfl (by kernel_rfl) Tryz.ntmps29 rfl fun w0 F0 => ?_
  refine Tri.cv (Cv.wk (.cons (t := 0) (Has.t rfl) (.cons (t := 1) (Has.t rfl) .nil))) ?_
  have hml : (ls.map (nrm (fp q))).length = k + 1 := by rw [List.length_map, hls]
  have hp0 := fp_pos q
  have hrl : (rowsH n σ H).length = n := rowsH_len hS
  have hrr : ∀ r, r < n → ((rowsH n σ H).getD r []).length = n := fun r hr => rowsH_row hS hH hr
  have hrk := hrr k hk
  have hnl : ∀ j, (nrm (fp q) (ls.getD j [])).length ≤ 1000 := fun j => Nat.le_trans (nrm_len _ _) (hB j)
  have hwl : ∀ t, (nrm (fp q) (wst (zm (hu n σ H)) ls k t).1).length ≤ 1002 := fun t => Nat.le_trans (nrm_len _ _) (wst_len hB t)
  refine Tri.seq fun K1 hK1 => ?_
  refine Tri.region ?_
  refine st (OK1.as (Has.cW (f := isU))) rfl ?_
  refine nl ?_
  refine At.thn (hK1 _ _ ?_); clear hK1
  refine Tri.seq fun K2 hK2 => ?_
  refine Tri.region ?_
  refine st (OK1.mv (Has.t rfl)) rfl ?_
  refine st (OK1.nilcP (Has.t rfl)) rfl ?_
  refine st (OK1.fieldAddrP (Has.t rfl) fld96_0 ty30 (Ss' := [_, _, _]) rfl) rfl ?_
  refine st (OK1.loadP (Has.t rfl) ty30 rfl (Ss' := [_]) rfl) rfl ?_
  refine st (OK1.mv (Has.t rfl)) rfl ?_
  refine st (OK1.len sl67 (Has.t rfl)) rfl ?_
  refine st (OK1.eq (OK1.subI (Has.t rfl) (Has.cI 1 rfl) (by first | omega | assumption) (by first | omega | assumption)) ((show isI _ = isI (k : Int) from isI_eq (by omega)))) rfl ?_
  refine Ops.alloc [isU 0] zero30 (fun _ _ => ⟨⟨rfl, by decide⟩, trivial⟩) rfl fun b1 => ?_
  refine Ops.store (Has.t rfl) (Has.t rfl) (i := 0) rfl ty30 rfl rfl (Ss' := [_]) rfl (M' := [(some _, cellM [_]), _]) rfl ?_
  refine st (OK1.as (Has.t rfl)) rfl ?_
  refine nl ?_
  refine At.thn (hK2 _ _ ?_); clear hK2
  refine Tri.cv (Cv.wk (.cons (t := 0) (Has.t rfl) (.cons (t := 1) (Has.t rfl) (.cons (t := 4) (Has.t rfl) (.cons (t := 5) (Has.t rfl) (.cons (t := 6) (Has.t rfl) .nil)))))) ?_
  refine Tri.seq fun K3 hK3 => ?_
  refine Tri.dr ?_
  refine DrG.st (i := 0) [] rfl rfl rfl (by kernel_rfl) (OKG.o rfl (OK1.load (Has.t rfl) (i := 0) rfl ty30 rfl (Ss' := [_]) rfl)) ?_
  refine DrG.st (i := 1) [] rfl rfl rfl (by kernel_rfl) (OKG.o rfl (OK1.load (Has.t rfl) (i := 0) rfl ty30 rfl (Ss' := [_]) rfl)) ?_
  refine DrG.st (i := 2) [] rfl rfl rfl (by kernel_rfl) (OKG.o rfl (OK1.mv (Has.t rfl))) ?_
  refine DrG.st (i := 3) [19] rfl rfl rfl (by kernel_rfl) (OKG.o rfl (OK1.nilcP (Has.t rfl))) ?_
  refine DrG.st (i := 4) [20] rfl rfl rfl (by kernel_rfl) (OKG.o rfl (OK1.fieldAddrP (Has.t rfl) fld96_1 ty94 (Ss' := [_, _]) rfl)) ?_
  refine DrG.st (i := 5) [21] rfl rfl rfl (by kernel_rfl) (OKG.o rfl (OK1.loadP1 (Has.t rfl) ty94)) ?_
  refine DrG.st (i := 6) [] rfl rfl rfl (by kernel_rfl) (OKG.o rfl (OK1.mv (Has.t rfl))) ?_
  refine DrG.st (i := 7) [22, 23] rfl rfl rfl (by kernel_rfl) (OKG.o rfl (OK1.ixP sl94 ty36 (Has.t rfl) (Has.t rfl) ⟨by omega, by omega⟩ (getD_some (d := []) (by first | omega | (simp only [Int.toNat_natCast, List.length_set]; omega))))) ?_
  refine DrG.st (i := 8) [24] rfl rfl rfl (by kernel_rfl) (OKG.o rfl (OK1.eq (OK1.loadP1 (Has.t rfl) ty36) ((show isWs _ = isWs ((rowsH n σ H).getD k []) from rfl)))) ?_
  refine DrG.st (i := 9) [] rfl rfl rfl (by kernel_rfl) (OKG.o rfl (OK1.mv (Has.t rfl))) ?_
  refine DrG.st (i := 10) [25, 26] rfl rfl rfl (by kernel_rfl) (OKG.o rfl (OK1.ixP sl36 ty28 (Has.t rfl) (Has.t rfl) ⟨by omega, by omega⟩ (getD_some (d := 0) (by first | omega | (simp only [Int.toNat_natCast, List.length_set]; omega))))) ?_
  refine DrG.st (i := 11) [27] rfl rfl rfl (by kernel_rfl) (OKG.o rfl (OK1.eq (OK1.loadP1 (Has.t rfl) ty28) ((show isU _ = isU (hu n σ H k k) from isU_eq (rowsH_at hS hH (by omega) (by omega)))))) ?_
  refine DrG.st (i := 12) [18, 28] rfl rfl rfl (by kernel_rfl) (OKG.o rfl (OK1.call (gfp_Neg hq) (.cons (Has.t rfl) (.cons (Has.t rfl) .nil)))) ?_
  refine DrG.st (i := 13) [29] rfl rfl rfl (by kernel_rfl) (OKG.o rfl (OK1.buildS [isU 0, isU 0] sl41 ty28 zero28 (fun _ _ => ⟨⟨rfl, by decide⟩, ⟨rfl, by decide⟩, trivial⟩) rfl rfl (.cons (Has.t rfl) rfl rfl rfl (.cons (Has.cU 1 rfl) rfl rfl rfl .nil)) rfl (S := isWords [_, _]) rfl)) ?_
  refine DrG.st (i := 14) [] rfl rfl rfl (by kernel_rfl) (OKG.o rfl (OK1.mv (Has.t rfl))) ?_
  refine DrG.st (i := 15) [] rfl rfl rfl (by kernel_rfl) (OKG.o rfl (OK1.mv (Has.t rfl))) ?_
  refine DrG.st (i := 16) [31, 32] rfl rfl rfl (by kernel_rfl) (OKG.o rfl (OK1.ixGr sl67 ty41 (Has.t rfl) (Has.t rfl) ⟨by omega, by omega⟩)) ?_
  refine DrG.st (i := 17) [33] rfl rfl rfl (by kernel_rfl) (OKG.o rfl (OK1.loadGM (Has.t rfl) (i := 1) rfl ty41 (lsm_at (by omega)))) ?_
  refine DrG.fin (n := 18) mixed (by kernel_rfl) (by kernel_rfl) (by kernel_rfl) ?_
  refine Ops.cv (Cv.wk (.cons (t := 0) (Has.t rfl) (.cons (t := 1) (Has.t rfl) (.cons (t := 4) (Has.t rfl) (.cons (t := 5) (Has.t rfl) (.cons (t := 6) (Has.t rfl) (.cons (t := 17) (Has.t rfl) (.cons (t := 30) (Has.t rfl) (.cons (t := 34) (Has.t rfl) .nil))))))))) ?_
  refine st (OK1.eq (OK1.call (fpoly_Mul hq (by simp) (Nat.le_trans (hnl k) (by decide))) (.cons (Has.t rfl) (.cons (Has.t rfl) (.cons (Has.t rfl) .nil)))) ((show isWords _ = isWords (nrm (fp q) (wst (zm (hu n σ H)) ls k 0).1) from SlM_eq (first_nrm hp0 _ _)))) rfl ?_
  refine st (OK1.as (Has.t rfl)) rfl ?_
  refine nl ?_
  refine At.thn (hK3 _ _ ?_); clear hK3
  refine Tri.seq fun K4 hK4 => ?_
  refine Tri.region ?_
  refine st (OK1.as (Has.cU 1 rfl)) rfl ?_
  refine nl ?_
  refine At.thn (hK4 _ _ ?_); clear hK4
  refine Tri.seq fun K5 hK5 => ?_
  refine Tri.seq fun K6 hK6 => ?_
  refine Tri.region ?_
  refine st (OK1.mv (Has.t rfl)) rfl ?_
  refine st (OK1.subI (Has.t rfl) (Has.cI 1 rfl) (by first | omega | assumption) (by first | omega | assumption)) rfl ?_
  refine st (OK1.as (Has.t rfl)) rfl ?_
  refine nl ?_
  refine At.thn (hK6 _ _ ?_); clear hK6
  refine Tri.cv (Cv.wk (.cons (t := 0) (Has.t rfl) (.cons (t := 1) (Has.t rfl) (.cons (t := 4) (Has.t rfl) (.cons (t := 5) (Has.t rfl) (.cons (t := 6) (Has.t rfl) (.cons (t := 7) (Has.t rfl) (.cons (t := 8) (Has.t rfl) (.cons (t := 9) (Has.t rfl) .nil))))))))) ?_
  refine Tri.block ?_
  refine Tri.loopF [0, 1, 4, 5, 6] (fun (z : { t : Nat // t ≤ k }) => match z with | ⟨t, ht⟩ => [(9, isI ((k : Int) - 1 - t)), (8, isU (((wst (zm (hu n σ H)) ls k t).2 % ((fp q : Nat) : Int)).toNat)), (7, isWords (nrm (fp q) (wst (zm (hu n σ H)) ls k t).1))]) (fun M => fun (z : { t : Nat // t ≤ k }) => match z with | ⟨t, ht⟩ => [(some b1, cellM [isU q]), grM isWs gl (ls.map (nrm (fp q)))]) (fun (z : { t : Nat // t ≤ k }) => match z with | ⟨t, ht⟩ => k - t) (⟨0, Nat.zero_le _⟩) (Cv.mem (.cons (t := 9) (Has.t' rfl ?_) (.cons (t := 8) (Has.t' rfl ?_) (.cons (t := 7) (Has.t' rfl ?_) (.cons (t := 0) (Has.t rfl) (.cons (t := 1) (Has.t rfl) (.cons (t := 4) (Has.t rfl) (.cons (t := 5) (Has.t rfl) (.cons (t := 6) (Has.t rfl) .nil)))))))) ?_) ?_
  · exact isI_eq (by omega)
  · exact isU_eq (by show 1 = ((1 : Int) % ((fp q : Nat) : Int)).toNat; rw [Int.emod_eq_of_lt (by omega) (by omega)]; rfl)
  · rfl
  · rfl
  rintro ⟨t, ht⟩ K7 hK7
  refine Tri.cv (Cv.wk (.cons (t := 9) (Has.t rfl) (.cons (t := 8) (Has.t rfl) (.cons (t := 7) (Has.t rfl) (.cons (t := 0) (Has.t rfl) (.cons (t := 1) (Has.t rfl) (.cons (t := 4) (Has.t rfl) (.cons (t := 5) (Has.t rfl) (.cons (t := 6) (Has.t rfl) .nil))))))))) ?_
  refine Tri.memEq (M' := [(some b1, cellM [isU q]), grM isWs gl (ls.map (nrm (fp q)))]) rfl ?_
  refine Tri.seq fun K8 hK8 => ?_
  refine Tri.seq fun K9 hK9 => ?_
  refine Tri.region ?_
  refine st (OK1.mv (Has.t rfl)) rfl ?_
  refine st (OK1.geI (Has.t rfl) (Has.cI 0 rfl)) rfl ?_
  refine nl ?_
  refine At.thn (hK9 _ _ ?_); clear hK9
  refine Tri.cond (Has.t rfl) (fun hc1 => ?_) (fun hc1 => ?_)
  · have hc1 := BP.t hc1
    have htk : t < k := (by omega)
    have hr1 := hrr (k - 1 - t + 1) (by omega)
    have hr2 := hrr (k - 1 - t) (by omega)
    refine Tri.skip ?_
    refine At.thn (hK8 _ _ ?_); clear hK8
    refine Tri.seq fun K10 hK10 => ?_
    refine Tri.block ?_
    refine Tri.seq fun K11 hK11 => ?_
    refine Tri.dr ?_
    refine DrG.st (i := 0) [] rfl rfl rfl (by kernel_rfl) (OKG.o rfl (OK1.load (Has.t rfl) (i := 0) rfl ty30 rfl (Ss' := [_]) rfl)) ?_
    refine DrG.st (i := 1) [] rfl rfl rfl (by kernel_rfl) (OKG.o rfl (OK1.mv (Has.t rfl))) ?_
    refine DrG.st (i := 2) [] rfl rfl rfl (by kernel_rfl) (OKG.o rfl (OK1.mv (Has.t rfl))) ?_
    refine DrG.st (i := 3) [44] rfl rfl rfl (by kernel_rfl) (OKG.o rfl (OK1.nilcP (Has.t rfl))) ?_
    refine DrG.st (i := 4) [45] rfl rfl rfl (by kernel_rfl) (OKG.o rfl (OK1.fieldAddrP (Has.t rfl) fld96_1 ty94 (Ss' := [_, _]) rfl)) ?_
    refine DrG.st (i := 5) [46] rfl rfl rfl (by kernel_rfl) (OKG.o rfl (OK1.loadP1 (Has.t rfl) ty94)) ?_
    refine DrG.st (i := 6) [] rfl rfl rfl (by kernel_rfl) (OKG.o rfl (OK1.eq (OK1.mv (Has.t rfl)) ((show isI _ = isI ((k - 1 - t : Nat) : Int) from isI_eq (by omega))))) ?_
    refine DrG.st (i := 7) [48] rfl rfl rfl (by kernel_rfl) (OKG.o rfl (OK1.eq (OK1.addI (Has.t rfl) (Has.cI 1 rfl) (by first | omega | assumption) (by first | omega | assumption)) ((show isI _ = isI ((k - 1 - t + 1 : Nat) : Int) from isI_eq (by omega))))) ?_
    refine DrG.st (i := 8) [47, 49] rfl rfl rfl (by kernel_rfl) (OKG.o rfl (OK1.ixP sl94 ty36 (Has.t rfl) (Has.t rfl) ⟨by omega, by omega⟩ (getD_some (d := []) (by first | omega | (simp only [Int.toNat_natCast, List.length_set]; omega))))) ?_
    refine DrG.st (i := 9) [50] rfl rfl rfl (by kernel_rfl) (OKG.o rfl (OK1.eq (OK1.loadP1 (Has.t rfl) ty36) ((show isWs _ = isWs ((rowsH n σ H).getD (k - 1 - t + 1) []) from rfl)))) ?_
    refine DrG.st (i := 10) [] rfl rfl rfl (by kernel_rfl) (OKG.o rfl (OK1.eq (OK1.mv (Has.t rfl)) ((show isI _ = isI ((k - 1 - t : Nat) : Int) from isI_eq (by omega))))) ?_
    refine DrG.st (i := 11) [51, 52] rfl rfl rfl (by kernel_rfl) (OKG.o rfl (OK1.ixP sl36 ty28 (Has.t rfl) (Has.t rfl) ⟨by omega, by omega⟩ (getD_some (d := 0) (by first | omega | (simp only [Int.toNat_natCast, List.length_set]; omega))))) ?_
    refine DrG.st (i := 12) [53] rfl rfl rfl (by kernel_rfl) (OKG.o rfl (OK1.eq (OK1.loadP1 (Has.t rfl) ty28) ((show isU _ = isU (hu n σ H (k - 1 - t + 1) (k - 1 - t)) from isU_eq (rowsH_at hS hH (by omega) (by omega)))))) ?_
    refine DrG.fin (n := 13) mixed (by kernel_rfl) (by kernel_rfl) (by kernel_rfl) ?_
    refine Ops.cv (Cv.wk (.cons (t := 0) (Has.t rfl) (.cons (t := 1) (Has.t rfl) (.cons (t := 4) (Has.t rfl) (.cons (t := 5) (Has.t rfl) (.cons (t := 6) (Has.t rfl) (.cons (t := 9) (Has.t rfl) (.cons (t := 8) (Has.t rfl) (.cons (t := 7) (Has.t rfl) (.cons (t := 38) (Has.t rfl) (.cons (t := 39) (Has.t rfl) (.cons (t := 42) (Has.t rfl) (.cons (t := 43) (Has.t rfl) (.cons (t := 44) (Has.t rfl) (.cons (t := 45) (Has.t rfl) (.cons (t := 46) (Has.t rfl) (.cons (t := 47) (Has.t rfl) (.cons (t := 48) (Has.t rfl) (.cons (t := 49) (Has.t rfl) (.cons (t := 50) (Has.t rfl) (.cons (t := 51) (Has.t rfl) (.cons (t := 52) (Has.t rfl) (.cons (t := 53) (Has.t rfl) (.cons (t := 54) (Has.t rfl) .nil)))))))))))))))))))))))) ?_
    refine st (OK1.eq (OK1.call (gfp_Mul hq) (.cons (Has.t rfl) (.cons (Has.t rfl) (.cons (Has.t rfl) .nil)))) ((show isU _ = isU (((wst (zm (hu n σ H)) ls k (t + 1)).2 % ((fp q : Nat) : Int)).toNat) from isU_eq (by_step hp0 _ _)))) rfl ?_
    refine st (OK1.as (Has.t rfl)) rfl ?_
    refine nl ?_
    refine At.thn (hK11 _ _ ?_); clear hK11
    refine Tri.dr ?_
    refine DrG.st (i := 0) [] rfl rfl rfl (by kernel_rfl) (OKG.o rfl (OK1.load (Has.t rfl) (i := 0) rfl ty30 rfl (Ss' := [_]) rfl)) ?_
    refine DrG.st (i := 1) [] rfl rfl rfl (by kernel_rfl) (OKG.o rfl (OK1.mv (Has.t rfl))) ?_
    refine DrG.st (i := 2) [] rfl rfl rfl (by kernel_rfl) (OKG.o rfl (OK1.load (Has.t rfl) (i := 0) rfl ty30 rfl (Ss' := [_]) rfl)) ?_
    refine DrG.st (i := 3) [] rfl rfl rfl (by kernel_rfl) (OKG.o rfl (OK1.mv (Has.t rfl))) ?_
    refine DrG.st (i := 4) [] rfl rfl rfl (by kernel_rfl) (OKG.o rfl (OK1.eq (OK1.mv (Has.t rfl)) ((show isI _ = isI ((k - 1 - t : Nat) : Int) from isI_eq (by omega))))) ?_
    refine DrG.st (i := 5) [59, 60] rfl rfl rfl (by kernel_rfl) (OKG.o rfl (OK1.ixGr sl67 ty41 (Has.t rfl) (Has.t rfl) ⟨by omega, by omega⟩)) ?_
    refine DrG.st (i := 6) [61] rfl rfl rfl (by kernel_rfl) (OKG.o rfl (OK1.loadGM (Has.t rfl) (i := 1) rfl ty41 (lsm_at (by omega)))) ?_
    refine DrG.st (i := 7) [] rfl rfl rfl (by kernel_rfl) (OKG.o rfl (OK1.load (Has.t rfl) (i := 0) rfl ty30 rfl (Ss' := [_]) rfl)) ?_
    refine DrG.st (i := 8) [] rfl rfl rfl (by kernel_rfl) (OKG.o rfl (OK1.mv (Has.t rfl))) ?_
    refine DrG.st (i := 9) [] rfl rfl rfl (by kernel_rfl) (OKG.o rfl (OK1.mv (Has.t rfl))) ?_
    refine DrG.st (i := 10) [65] rfl rfl rfl (by kernel_rfl) (OKG.o rfl (OK1.nilcP (Has.t rfl))) ?_
    refine DrG.st (i := 11) [66] rfl rfl rfl (by kernel_rfl) (OKG.o rfl (OK1.fieldAddrP (Has.t rfl) fld96_1 ty94 (Ss' := [_, _]) rfl)) ?_
    refine DrG.st (i := 12) [67] rfl rfl rfl (by kernel_rfl) (OKG.o rfl (OK1.loadP1 (Has.t rfl) ty94)) ?_
    refine DrG.st (i := 13) [] rfl rfl rfl (by kernel_rfl) (OKG.o rfl (OK1.eq (OK1.mv (Has.t rfl)) ((show isI _ = isI ((k - 1 - t : Nat) : Int) from isI_eq (by omega))))) ?_
    refine DrG.st (i := 14) [68, 69] rfl rfl rfl (by kernel_rfl) (OKG.o rfl (OK1.ixP sl94 ty36 (Has.t rfl) (Has.t rfl) ⟨by omega, by omega⟩ (getD_some (d := []) (by first | omega | (simp only [Int.toNat_natCast, List.length_set]; omega))))) ?_
    refine DrG.st (i := 15) [70] rfl rfl rfl (by kernel_rfl) (OKG.o rfl (OK1.eq (OK1.loadP1 (Has.t rfl) ty36) ((show isWs _ = isWs ((rowsH n σ H).getD (k - 1 - t) []) from rfl)))) ?_
    refine DrG.st (i := 16) [] rfl rfl rfl (by kernel_rfl) (OKG.o rfl (OK1.mv (Has.t rfl))) ?_
    refine DrG.st (i := 17) [71, 72] rfl rfl rfl (by kernel_rfl) (OKG.o rfl (OK1.ixP sl36 ty28 (Has.t rfl) (Has.t rfl) ⟨by omega, by omega⟩ (getD_some (d := 0) (by first | omega | (simp only [Int.toNat_natCast, List.length_set]; omega))))) ?_
    refine DrG.st (i := 18) [73] rfl rfl rfl (by kernel_rfl) (OKG.o rfl (OK1.eq (OK1.loadP1 (Has.t rfl) ty28) ((show isU _ = isU (hu n σ H (k - 1 - t) k) from isU_eq (rowsH_at hS hH (by omega) (by omega)))))) ?_
    refine DrG.st (i := 19) [63, 64, 74] rfl rfl rfl (by kernel_rfl) (OKG.o rfl (OK1.call (gfp_Mul hq) (.cons (Has.t rfl) (.cons (Has.t rfl) (.cons (Has.t rfl) .nil))))) ?_
    refine DrG.st (i := 20) [58, 62, 75] rfl rfl rfl (by kernel_rfl) (OKG.o rfl (OK1.eq (OK1.call (fpoly_Scale hq (Nat.le_trans (hnl (k - 1 - t)) (by decide))) (.cons (Has.t rfl) (.cons (Has.t rfl) (.cons (Has.t rfl) .nil)))) ((show isWords _ = isWords (nrm (fp q) (rmul (ls.getD (k - 1 - t) []) [(wst (zm (hu n σ H)) ls k (t + 1)).2 * (zm (hu n σ H)) (k - 1 - t) k])) from SlM_eq (nrm_scl2 hp0 (by_cast hp0 _ _)))))) ?_
    refine DrG.fin (n := 21) mixed (by kernel_rfl) (by kernel_rfl) (by kernel_rfl) ?_
    refine Ops.cv (Cv.wk (.cons (t := 0) (Has.t rfl) (.cons (t := 1) (Has.t rfl) (.cons (t := 4) (Has.t rfl) (.cons (t := 5) (Has.t rfl) (.cons (t := 6) (Has.t rfl) (.cons (t := 9) (Has.t rfl) (.cons (t := 8) (Has.t rfl) (.cons (t := 7) (Has.t rfl) (.cons (t := 38) (Has.t rfl) (.cons (t := 39) (Has.t rfl) (.cons (t := 42) (Has.t rfl) (.cons (t := 43) (Has.t rfl) (.cons (t := 44) (Has.t rfl) (.cons (t := 45) (Has.t rfl) (.cons (t := 46) (Has.t rfl) (.cons (t := 47) (Has.t rfl) (.cons (t := 48) (Has.t rfl) (.cons (t := 49) (Has.t rfl) (.cons (t := 50) (Has.t rfl) (.cons (t := 51) (Has.t rfl) (.cons (t := 52) (Has.t rfl) (.cons (t := 53) (Has.t rfl) (.cons (t := 54) (Has.t rfl) (.cons (t := 55) (Has.t rfl) (.cons (t := 56) (Has.t rfl) (.cons (t := 57) (Has.t rfl) (.cons (t := 58) (Has.t rfl) (.cons (t := 59) (Has.t rfl) (.cons (t := 60) (Has.t rfl) (.cons (t := 61) (Has.t rfl) (.cons (t := 62) (Has.t rfl) (.cons (t := 63) (Has.t rfl) (.cons (t := 64) (Has.t rfl) (.cons (t := 65) (Has.t rfl) (.cons (t := 66) (Has.t rfl) (.cons (t := 67) (Has.t rfl) (.cons (t := 68) (Has.t rfl) (.cons (t := 69) (Has.t rfl) (.cons (t := 70) (Has.t rfl) (.cons (t := 71) (Has.t rfl) (.cons (t := 72) (Has.t rfl) (.cons (t := 73) (Has.t rfl) (.cons (t := 74) (Has.t rfl) (.cons (t := 75) (Has.t rfl) (.cons (t := 76) (Has.t rfl) .nil)))))))))))))))))))))))))))))))))))))))))))))) ?_
    refine st (OK1.eq (OK1.call (fpoly_Sub hq (by have := hwl t; omega) (by refine Nat.le_trans (nrm_len _ _) ?_; rw [rmul_len]; have := hB (k - 1 - t); simp only [List.length_cons, List.length_nil]; omega)) (.cons (Has.t rfl) (.cons (Has.t rfl) (.cons (Has.t rfl) .nil)))) ((show isWords _ = isWords (nrm (fp q) (wst (zm (hu n σ H)) ls k (t + 1)).1) from SlM_eq (nrm_sub2 hp0 _ _)))) rfl ?_
    refine st (OK1.as (Has.t rfl)) rfl ?_
    refine nl ?_
    refine At.bln ?_
    refine At.thn (hK10 _ _ ?_); clear hK10
    refine Tri.region ?_
    refine st (OK1.mv (Has.t rfl)) rfl ?_
    refine st (OK1.subI (Has.t rfl) (Has.cI 1 rfl) (by first | omega | assumption) (by first | omega | assumption)) rfl ?_
    refine st (OK1.as (Has.t rfl)) rfl ?_
    refine nl ?_
    refine At.thn ?_
    refine hK7 (⟨t + 1, by omega⟩) _ _ ?_ (Cv.mem (.cons (t := 9) (Has.t' rfl ?_) (.cons (t := 8) (Has.t' rfl ?_) (.cons (t := 7) (Has.t' rfl ?_) (.cons (t := 0) (Has.t rfl) (.cons (t := 1) (Has.t rfl) (.cons (t := 4) (Has.t rfl) (.cons (t := 5) (Has.t rfl) (.cons (t := 6) (Has.t rfl) .nil)))))))) ?_)
    · show k - (t + 1) < k - t; omega
    · exact isI_eq (by omega)
    · rfl
    · rfl
    · rfl
  · have hc1 := BP.f hc1
    refine Tri.exit ?_
    refine At.the ?_
    refine At.the ?_
    refine At.blh ?_
    refine At.thn (hK5 _ _ ?_); clear hK5
    refine Tri.cv (Cv.wk (.cons (t := 4) (Has.t rfl) (.cons (t := 7) (Has.t rfl) .nil))) ?_
    refine Tri.seq fun K12 hK12 => ?_
    refine Tri.region ?_
    refine st (OK1.mv (Has.t rfl)) rfl ?_
    refine st (OK1.as (Has.t rfl)) rfl ?_
    refine nl ?_
    refine At.thn (hK12 _ _ ?_); clear hK12
    refine Tri.ret ?_
    refine rtX1D (.cons _ (.cons_cons _ .slnil)) (.inl rfl) Tryz.results29 rfl (.tmp (Has.t rfl) .nil) ?_
    obtain rfl : t = k := (by omega)
    exact ⟨rfl, rfl⟩
end Go.Proofs.YtkgipdidomikbaaGreat
/- A slice that is built, and may grow; rows of polynomials. -/
namespace Go.En
open Go.RowKit Go.Pz Go.Nt Go.Mz
set_option linter.unusedVariables false
section
variable {E : Env} {P : Program} {Γ : Ctx} {M : Mem} {ty : TypeId} {pos : String} {after : Array Edge}
  {ops : Array Oper} {Q : Exit → Act → World → Prop} {rest : List Oper} {T : TypeId} {α : Type} {fk : α → List VP} {xs : List α} {k : Nat}
theorem Ops.buildGK {d : Nat} {e : TypeId} {n : Nat} {g : Bool} {z : Value} {ps : List (Nat × Operand)} (Z : List VP) {Z' : List VP} (hT : slB P T = some e) (ht : tyB P e = some (k, g)) (hz : zeroB P e = some z) (hZ : ∀ w F, All2 Z w F ((List.replicate n z.cells.toList).flatten)) (hnm : Nat.ble (n * k) 1000 = true) (hn0 : Nat.beq (n * k) 0 = false)
    (h : Parts E Γ M (fun i => some (i * k, k)) Z ps Z') (hl : Nat.beq Z'.length (n * k) = true) (hS : Z' = xs.flatMap fk) (hn : n = xs.length) (hd : Nat.blt d E.n = true)
    (kk : ∀ b, Ops E P ops Q rest ((d, isGr (⟨some b, n, []⟩ : Gr α) xs.length) :: Γ) (grMK fk ⟨some b, n, []⟩ xs :: M)) : Ops E P ops Q (⟨some d, .buildSlice T n ps.toArray, ty, pos, after, none⟩ :: rest) Γ M := by
  intro a w F s
  refine wpList_plain rfl fun K hK => ?_
  have hu := slB_under hT
  have hnm' := Nat.le_of_ble_eq_true hnm
  have hn0' := Nat.ne_of_beq_eq_false hn0
  have hm : (n * z.cells.size) = n * k := by
    have h1 := (hZ w F).len
    have h2 := Nat.eq_of_beq_eq_true hl
    have h3 : Z'.length = Z.length := by
      clear h1 h2 hK hZ hS hl
      induction h with
      | nil => rfl
      | @cons Z Z' i off k x S0 Ss r sh a1 a2 a3 a4 _ ih =>
        rw [ih, spliceV_eq _ _ _ (by have := Nat.le_of_ble_eq_true a4; have := Nat.eq_of_beq_eq_true a3; omega)]
        have := Nat.le_of_ble_eq_true a4; have := Nat.eq_of_beq_eq_true a3
        simp; omega
    simp at h1
    omega
  have hz0 : z.cells.size = k := by
    rcases Nat.eq_zero_or_pos n with h0 | h0
    · subst h0; simp at hn0'
    · exact Nat.eq_of_mul_eq_mul_left h0 hm
  have hfl : ((Array.range (n * k)).map fun j => z.cells[j % z.cells.size]!) = ((List.replicate n z.cells.toList).flatten).toArray := make_flat hz0
  obtain ⟨cells, h1, h2⟩ := h.fill s ((List.replicate n z.cells.toList).flatten).toArray (by simpa using hZ w F)
  have hr : (execOp a.eval (⟨some d, .buildSlice T n ps.toArray, ty, pos, after, none⟩ : Oper)).run P w = .ok (.value (.slice (some ⟨w.heap.size, 0, none⟩) n n)) { w with heap := w.heap.push (.cells cells.toList.toArray e) } := by
    have hmap : (ps.toArray.map fun (p : Nat × Operand) => (p.1, a.eval p.2)).toList = ps.map fun p => (p.1, a.eval p.2) := by simp
    have hbig : ¬ n * k > 2 ^ 24 := by omega
    simp only [execOp, Instr.buildSlice, Sem.run_bind, run_under hu, Result.andThen_ok, run_size ht, if_neg hbig, if_neg hn0', run_zero hz, Sem.run_pure, hmap, hfl, h1, newRow, run_newObj]
  unfold Oper.wp
  rw [hr]
  subst hS
  have s1 := s.alloc (T := e) h2
  have hd' : d < E.n := by simpa [Nat.blt_eq] using hd
  have hk0 : 0 < k := by
    rcases Nat.eq_zero_or_pos k with h0 | h0
    · subst h0; simp at hn0'
    · exact h0
  have hnk := Nat.le_mul_of_pos_right n hk0
  have hM : grMK fk (⟨some w.heap.size, n, []⟩ : Gr α) xs = (some w.heap.size, cellM (xs.flatMap fk)) := by unfold grMK; rw [List.append_nil]
  have k1 := kk w.heap.size
  rw [hM] at k1
  exact hK _ _ (k1 _ _ F (s1.put hd' (.inr ⟨w.heap.size, rfl, by rw [hn], by simp [hn], by show n ≤ maxLen; rw [maxLen_eq]; omega⟩)))
end
end Go.En
/- Contracts: the characteristic polynomial over a field. -/
namespace Go.Proofs.YtkgipdidomikbaaGreat
open Go.En Go.RowKit
set_option linter.unusedVariables false
set_option maxRecDepth 10000
open Go.Gf
open Go.Mz
open Go.Mu
open Go.Nt
open Go.Hs
open Go.Pz
open Go.Po
set_option maxHeartbeats 4000000 in
theorem hess_square {r c : Int} {xs : List Nat} : Ctr Tryz.prog 27 [isMW r c xs] (isB (formB r c xs.length && decide (r = c))) := by
  refine Ctr.intro Tryz.func27 rfl (by kernel_rfl) Tryz.ntmps27 rfl fun w0 F0 => ?_
  refine Tri.cv (Cv.wk (.cons (t := 0) (Has.t rfl) .nil)) ?_
  refine Tri.seq fun K1 hK1 => ?_
  refine Tri.region ?_
  refine Ops.box (Has.t rfl) rfl fun b1 => ?_
  refine st (OK1.as (Has.cB false)) rfl ?_
  refine nl ?_
  refine At.thn (hK1 _ _ ?_); clear hK1
  refine Tri.seq fun K2 hK2 => ?_
  refine Tri.region ?_
  refine st (OK1.load (Has.t rfl) (i := 0) rfl ty38 rfl (Ss' := [_, _, _]) rfl) rfl ?_
  refine st (OK1.call (fmat_Formed) (.cons (Has.t rfl) .nil)) rfl ?_
  refine st (OK1.mv (Has.t rfl)) rfl ?_
  refine stT rfl rfl (fun hg => have hg' := BP.t hg; OK1.fieldAddr (Has.t rfl) fld38_0 ty3) rfl ?_
  refine stT rfl rfl (fun hg => have hg' := BP.t hg; OK1.load1 (Has.g rfl hg) (i := 0) rfl ty3 rfl) rfl ?_
  refine stT rfl rfl (fun hg => have hg' := BP.t hg; OK1.fieldAddr (Has.t rfl) fld38_1 ty3) rfl ?_
  refine stT rfl rfl (fun hg => have hg' := BP.t hg; OK1.load1 (Has.g rfl hg) (i := 0) rfl ty3 rfl) rfl ?_
  refine stT rfl rfl (fun hg => have hg' := BP.t hg; OK1.eqI (Has.g rfl hg) (Has.g rfl hg)) rfl ?_
  refine st (OK1.pickAnd (Has.t rfl) (fun h => Has.g rfl h)) rfl ?_
  refine st (OK1.as (Has.t rfl)) rfl ?_
  refine nl ?_
  refine At.thn (hK2 _ _ ?_); clear hK2
  refine Tri.cv (Cv.wk (.cons (t := 2) (Has.t rfl) .nil)) ?_
  refine Tri.ret ?_
  refine rt1 (.inl rfl) Tryz.results27 rfl (.tmp (Has.t' rfl ?_) .nil)
  all_goals (rfl)
set_option maxHeartbeats 4000000 in
theorem hess_CharX {q n : Nat} {xs : List Nat} {A : Go.Dt.MatF} (hq : q < 4294967296) (hpr : Prime (fp q)) (hn : n ≤ 64) (hxl : xs.length = n * n) (hA : HI (fp q) n A (hu n (List.range n) (tabU (n * n) n fun i k => xs.getD (i * n + k) 0 % fp q)) 1) : CtrX Tryz.prog 10 [Flat [isU q], isMW n n xs] ([]) (fun S M => ∃ h k, HI (fp q) n A h k ∧ (∀ r s, r < n → s + 1 < r → h r s = 0) ∧ S = isTup [isWords (nrm (fp q) ((chl (zm h) n).getD n [])), isI 0] ∧ M = []) := by
  refine CtrX.intro Tryz.func10 rfl (by kernel_rfl) Tryz.ntmps10 rfl fun w0 F0 => ?_
  refine Tri.cv (Cv.wk (.cons (t := 0) (Has.t rfl) (.cons (t := 1) (Has.t rfl) .nil))) ?_
  have hRC := side_le hn hn
  have hp2 := hpr.1
  have hfo := formB_true hn hn hxl
  have hfs : (formB (n : Int) (n : Int) xs.length && decide ((n : Int) = (n : Int))) = true := by rw [hfo]; simp
  refine Tri.seq fun K1 hK1 => ?_
  refine Tri.region ?_
  refine Ops.box (Has.t rfl) rfl fun b1 => ?_
  refine Ops.box (Has.t rfl) rfl fun b2 => ?_
  refine st (OK1.as (Has.cW (f := isU))) rfl ?_
  refine st (OK1.as (Has.cI 0 rfl)) rfl ?_
  refine nl ?_
  refine At.thn (hK1 _ _ ?_); clear hK1
  refine Tri.seq fun K2 hK2 => ?_
  refine Tri.seq fun K3 hK3 => ?_
  refine Tri.region ?_
  refine st (OK1.load (Has.t rfl) (i := 0) rfl ty38 rfl (Ss' := [_, _, _]) rfl) rfl ?_
  refine st (OK1.eq (OK1.call (hess_square) (.cons (Has.t rfl) .nil)) ((show isB _ = isB true from isB_eq hfs))) rfl ?_
  refine st (OK1.not (Has.t rfl)) rfl ?_
  refine nl ?_
  refine At.thn (hK3 _ _ ?_); clear hK3
  refine Tri.cond (Has.t rfl) (fun hc1 => ?_) (fun hc1 => ?_)
  · have hc1 := BP.t hc1
    exfalso; simp at hc1
  · have hc1 := BP.f hc1
    refine Tri.skip ?_
    refine At.thn (hK2 _ _ ?_); clear hK2
    refine Tri.cv (Cv.wk (.cons (t := 2) (Has.t rfl) (.cons (t := 3) (Has.t rfl) (.cons (t := 4) (Has.t rfl) (.cons (t := 5) (Has.t rfl) .nil))))) ?_
    refine Tri.seq fun K4 hK4 => ?_
    refine Tri.cv (Cv.freezeBox (t := 2) (i := 1) rfl rfl rfl) ?_
    refine Tri.memEq (M' := [_]) rfl ?_
    refine Tri.cv (Cv.wk (.cons (t := 2) (Has.t rfl) (.cons (t := 3) (Has.t rfl) (.cons (t := 4) (Has.t rfl) (.cons (t := 5) (Has.t rfl) .nil))))) ?_
    refine Tri.cv (Cv.freezeBox (t := 3) (i := 0) rfl rfl rfl) ?_
    refine Tri.memEq (M' := []) rfl ?_
    refine Tri.cv (Cv.wk (.cons (t := 2) (Has.t rfl) (.cons (t := 3) (Has.t rfl) (.cons (t := 4) (Has.t rfl) (.cons (t := 5) (Has.t rfl) .nil))))) ?_
    refine Tri.region ?_
    refine st (OK1.loadP (Has.t rfl) ty30 rfl (Ss' := [_]) rfl) rfl ?_
    refine st (OK1.loadP (Has.t rfl) ty38 rfl (Ss' := [_, _, _]) rfl) rfl ?_
    refine Ops.callX (hess_formed hq hpr hn hxl hA) (List.Perm.refl _) (.cons (Has.t rfl) (.cons (Has.t rfl) .nil)) rfl ?_
    rintro _ _ ⟨bw, gth, gtp, gh, gp, σ, H, P, rfl, rfl, hS, hH, hP, ⟨k0, hI⟩, hlow⟩
    have hsl := hS.len
    have hpl : ∀ s ∈ σ, s * n + n ≤ n * n := fun s hs => by obtain ⟨r, hr⟩ := List.mem_iff_getElem?.1 hs; have h1 : r < σ.length := (List.getElem?_eq_some_iff.1 hr).1; have h2 := hS.lt r (by omega); rw [List.getD_eq_getElem?_getD, hr] at h2; have h3 : (s + 1) * n ≤ n * n := Nat.mul_le_mul_right n h2; rw [Nat.succ_mul] at h3; exact h3
    refine Ops.memEq (M' := wkH q bw n gth gtp gh gp σ H P) (List.append_nil _) ?_
    refine st (OK1.as (Has.t rfl)) rfl ?_
    refine nl ?_
    refine At.thn (hK4 _ _ ?_); clear hK4
    refine Tri.seq fun K5 hK5 => ?_
    refine Tri.cv (Cv.freezeH (t := 6) rfl rfl hsl (fun s hs => by rw [hH]; exact hpl s hs) (fun s hs => by rw [hP]; exact hpl s hs)) ?_
    refine Tri.region ?_
    refine st (OK1.buildS [isU 0] sl41 ty28 zero28 (fun _ _ => ⟨⟨rfl, by decide⟩, trivial⟩) rfl rfl (.cons (Has.cU 1 rfl) rfl rfl rfl .nil) rfl (S := isWords [_]) rfl) rfl ?_
    refine Ops.buildGK (fk := fun a => [isWs a]) (xs := [[1]]) [SlM isU []] sl67 ty41 zero41 (fun _ _ => ⟨nilM _ _, trivial⟩) rfl rfl (.cons (Has.t rfl) rfl rfl rfl .nil) rfl rfl rfl rfl fun b3 => ?_
    refine Ops.memEq (M' := [grM isWs ⟨some b3, 1, []⟩ [[1]]]) rfl ?_
    refine st (OK1.as (Has.t rfl)) rfl ?_
    refine nl ?_
    refine At.thn (hK5 _ _ ?_); clear hK5
    refine Tri.cv (Cv.wk (.cons (t := 3) (Has.t rfl) (.cons (t := 4) (Has.t rfl) (.cons (t := 5) (Has.t rfl) (.cons (t := 6) (Has.t rfl) (.cons (t := 7) (Has.t rfl) .nil)))))) ?_
    refine Tri.seq fun K6 hK6 => ?_
    refine Tri.seq fun K7 hK7 => ?_
    refine Tri.region ?_
    refine st (OK1.fieldAddrP (Has.t rfl) fld38_0 ty3 (Ss' := [_, _, _]) rfl) rfl ?_
    refine st (OK1.loadP1 (Has.t rfl) ty3) rfl ?_
    refine st (OK1.mv (Has.cI 0 rfl)) rfl ?_
    refine nl ?_
    refine At.thn (hK7 _ _ ?_); clear hK7
    refine Tri.block ?_
    refine Tri.loopF [3, 4, 5, 6, 17] (fun (z : { z : Nat × Gr (List Nat) // z.1 ≤ n }) => match z with | ⟨(i, gl), hL⟩ => [(18, isI (i : Int)), (7, isGr gl ((chl (zm (hu n σ H)) i).map (nrm (fp q))).length)]) (fun M => fun (z : { z : Nat × Gr (List Nat) // z.1 ≤ n }) => match z with | ⟨(i, gl), hL⟩ => [grM isWs gl ((chl (zm (hu n σ H)) i).map (nrm (fp q)))]) (fun (z : { z : Nat × Gr (List Nat) // z.1 ≤ n }) => match z with | ⟨(i, gl), hL⟩ => n - i) (⟨(0, ⟨some b3, 1, []⟩), Nat.zero_le _⟩) (Cv.mem (.cons (t := 18) (Has.t' rfl ?_) (.cons (t := 7) (Has.t' rfl ?_) (.cons (t := 3) (Has.t rfl) (.cons (t := 4) (Has.t rfl) (.cons (t := 5) (Has.t rfl) (.cons (t := 6) (Has.t rfl) (.cons (t := 17) (Has.t rfl) .nil))))))) ?_) ?_
    · rfl
    · rfl
    · exact grM_eq (by show _ = [nrm (fp q) [1]]; rw [nrm_one hp2])
    rintro ⟨⟨i, gl⟩, hL⟩ K8 hK8
    refine Tri.cv (Cv.wk (.cons (t := 18) (Has.t rfl) (.cons (t := 7) (Has.t rfl) (.cons (t := 3) (Has.t rfl) (.cons (t := 4) (Has.t rfl) (.cons (t := 5) (Has.t rfl) (.cons (t := 6) (Has.t rfl) (.cons (t := 17) (Has.t rfl) .nil)))))))) ?_
    refine Tri.memEq (M' := [grM isWs gl ((chl (zm (hu n σ H)) i).map (nrm (fp q)))]) rfl ?_
    simp only [] at hL
    have hcl := chl_len (zm (hu n σ H)) i
    have hml : ((chl (zm (hu n σ H)) i).map (nrm (fp q))).length = i + 1 := by rw [List.length_map, hcl]
    refine Tri.seq fun K9 hK9 => ?_
    refine Tri.region ?_
    refine st (OK1.ltI (Has.t rfl) (Has.t rfl)) rfl ?_
    refine nl ?_
    refine At.thn (hK9 _ _ ?_); clear hK9
    refine Tri.seq fun K10 hK10 => ?_
    refine Tri.cond (Has.t rfl) (fun hc2 => ?_) (fun hc2 => ?_)
    · have hc2 := BP.t hc2
      refine Tri.skip ?_
      refine At.thn (hK10 _ _ ?_); clear hK10
      refine Tri.seq fun K11 hK11 => ?_
      refine Tri.block ?_
      refine Tri.region ?_
      refine st (OK1.mv (Has.t rfl)) rfl ?_
      refine st (OK1.mv (Has.t rfl)) rfl ?_
      refine st (OK1.mv (Has.t rfl)) rfl ?_
      refine Ops.callX (hess_next hq hS hH (k := i) (by omega) hn (chl_len _ _) (fun j => Nat.le_trans (chl_bd (zm (hu n σ H)) i j) (by omega)) hp2) (List.Perm.refl _) (.cons (Has.t rfl) (.cons (Has.t rfl) .nil)) rfl ?_
      rintro _ _ ⟨rfl, rfl⟩
      refine Ops.memEq (M' := [grM isWs gl ((chl (zm (hu n σ H)) i).map (nrm (fp q)))]) rfl ?_
      refine st (OK1.buildS [SlM isU []] sl67 ty41 zero41 (fun _ _ => ⟨nilM _ _, trivial⟩) rfl rfl (.cons (Has.t rfl) rfl rfl rfl .nil) rfl (S := SlM isWs [nrm (fp q) (wst (zm (hu n σ H)) (chl (zm (hu n σ H)) i) i i).1]) rfl) rfl ?_
      refine Ops.appendG (f := isWs) (u := ([] : List Nat)) sl67 ty41 zero41 (fun _ _ => ⟨nilM _ _, trivial⟩) (fun _ => inferInstance) by41 (Has.t rfl) (i := 0) rfl (Has.t rfl) (by rw [List.length_map, hcl]; show i + 1 + 1 ≤ _; omega) (by simp) rfl fun gr1 => ?_
      refine Ops.memEq (M' := [grM _ _ _]) rfl ?_
      refine st (OK1.as (Has.t rfl)) rfl ?_
      refine nl ?_
      refine At.bln ?_
      refine At.thn (hK11 _ _ ?_); clear hK11
      refine Tri.region ?_
      refine st (OK1.addI (Has.t rfl) (Has.cI 1 rfl) (by first | omega | assumption) (by first | omega | assumption)) rfl ?_
      refine st (OK1.mv (Has.t rfl)) rfl ?_
      refine nl ?_
      refine At.thn ?_
      refine hK8 (⟨(i + 1, gr1), by show i + 1 ≤ n; omega⟩) _ _ ?_ (Cv.mem (.cons (t := 18) (Has.t' rfl ?_) (.cons (t := 7) (Has.t' rfl ?_) (.cons (t := 3) (Has.t rfl) (.cons (t := 4) (Has.t rfl) (.cons (t := 5) (Has.t rfl) (.cons (t := 6) (Has.t rfl) (.cons (t := 17) (Has.t rfl) .nil))))))) ?_)
      · show n - (i + 1) < n - i; omega
      · exact isI_eq (by omega)
      · exact isGr_eq (by rw [hml, List.length_map, chl_len]; rfl)
      · exact grM_eq (by rw [show chl (zm (hu n σ H)) (i + 1) = chl (zm (hu n σ H)) i ++ [(wst (zm (hu n σ H)) (chl (zm (hu n σ H)) i) i i).1] from rfl, List.map_append]; rfl)
    · have hc2 := BP.f hc2
      refine Tri.exit ?_
      refine At.the ?_
      refine At.the ?_
      refine At.blh ?_
      refine At.thn (hK6 _ _ ?_); clear hK6
      refine Tri.seq fun K12 hK12 => ?_
      refine Tri.region ?_
      refine st (OK1.mv (Has.t rfl)) rfl ?_
      refine st (OK1.fieldAddrP (Has.t rfl) fld38_0 ty3 (Ss' := [_, _, _]) rfl) rfl ?_
      refine st (OK1.loadP1 (Has.t rfl) ty3) rfl ?_
      refine st (OK1.ixGr sl67 ty41 (Has.t rfl) (Has.t rfl) ⟨by omega, by omega⟩) rfl ?_
      refine st (OK1.loadGM (Has.t rfl) (i := 0) rfl ty41 (lsm_at (by rw [hcl]; simp only [Int.toNat_natCast]; omega))) rfl ?_
      refine st (OK1.as (Has.t rfl)) rfl ?_
      refine st (OK1.as (Has.cI 0 rfl)) rfl ?_
      refine nl ?_
      refine At.thn (hK12 _ _ ?_); clear hK12
      refine Tri.cv (Cv.wk (.cons (t := 4) (Has.t rfl) (.cons (t := 5) (Has.t rfl) .nil))) ?_
      refine Tri.ret ?_
      refine rtXND (.cons _ .slnil) (.inl rfl) Tryz.results10 rfl rfl (.tmp (Has.t rfl) (.tmp (Has.t rfl) .nil)) ?_
      obtain rfl : i = n := (by omega)
      exact ⟨_, k0, hI, hlow, rfl, rfl⟩
theorem hess_Char4 {q n : Nat} {xs : List Nat} {A : Go.Dt.MatF} (hq : q < 4294967296) (hpr : Prime (fp q)) (hn : n ≤ 4) (hxl : xs.length = n * n) (hA : ∀ i j, i < n → j < n → ((fp q : Nat) : Int) ∣ ((xs.getD (i * n + j) 0 : Nat) : Int) - A i j) :
    Ctr Tryz.prog 10 [Flat [isU q], isMW n n xs] (isTup [isWords (nrm (fp q) ((List.range (n + 1)).map (Go.Ch.cp n A))), isI 0]) :=
  (hess_CharX hq hpr (by omega) hxl (HI_start (fp_pos q) hA)).toCtr (by
    rintro S' M' ⟨h, k, hI, hlow, rfl, rfl⟩
    rw [chl_nrm (fp_pos q) hn hI hlow])
end Go.Proofs.YtkgipdidomikbaaGreat
/- Contracts: matrices of whole numbers. -/
namespace Go.Proofs.YtkgipdidomikbaaGreat
open Go.En Go.RowKit
set_option linter.unusedVariables false
set_option maxRecDepth 10000
open Go.Nt
open Go.Pz
open Go.Mz
set_option maxHeartbeats 4000000 in
theorem zmat_side {n : Int} : Ctr Tryz.prog 31 [isI n] (isB (decide (0 ≤ n) && decide (n ≤ 64))) := by
  refine Ctr.intro Tryz.func31 rfl (by kernel_rfl) Tryz.ntmps31 rfl fun w0 F0 => ?_
  refine Tri.cv (Cv.wk (.cons (t := 0) (Has.t rfl) .nil)) ?_
  refine Tri.fact (Has.rngI (Has.t (t := 0) rfl)) fun lt0 => ?_
  refine Tri.seq fun K1 hK1 => ?_
  refine Tri.region ?_
  refine st (OK1.as (Has.cB false)) rfl ?_
  refine nl ?_
  refine At.thn (hK1 _ _ ?_); clear hK1
  refine Tri.seq fun K2 hK2 => ?_
  refine Tri.region ?_
  refine st (OK1.mv (Has.t rfl)) rfl ?_
  refine st (OK1.geI (Has.t rfl) (Has.cI 0 rfl)) rfl ?_
  refine st (OK1.mv (Has.t rfl)) rfl ?_
  refine stT rfl rfl (fun hg => have hg' := BP.t hg; OK1.mv (Has.t rfl)) rfl ?_
  refine stT rfl rfl (fun hg => have hg' := BP.t hg; OK1.leI (Has.g rfl hg) (Has.cI 64 rfl)) rfl ?_
  refine st (OK1.pickAnd (Has.t rfl) (fun h => Has.g rfl h)) rfl ?_
  refine st (OK1.as (Has.t rfl)) rfl ?_
  refine nl ?_
  refine At.thn (hK2 _ _ ?_); clear hK2
  refine Tri.cv (Cv.wk (.cons (t := 2) (Has.t rfl) .nil)) ?_
  refine Tri.ret ?_
  refine rt1 (.inl rfl) Tryz.results31 rfl (.tmp (Has.t' rfl ?_) .nil)
  all_goals (rfl)
set_option maxHeartbeats 4000000 in
theorem zmat_Formed {r c : Int} {xs : List (Bool × List Nat)} : Ctr Tryz.prog 22 [isM r c xs] (isB (formB r c xs.length)) := by
  refine Ctr.intro Tryz.func22 rfl (by kernel_rfl) Tryz.ntmps22 rfl fun w0 F0 => ?_
  refine Tri.cv (Cv.wk (.cons (t := 0) (Has.t rfl) .nil)) ?_
  refine Tri.seq fun K1 hK1 => ?_
  refine Tri.region ?_
  refine Ops.box (Has.t rfl) rfl fun b1 => ?_
  refine st (OK1.as (Has.cB false)) rfl ?_
  refine nl ?_
  refine At.thn (hK1 _ _ ?_); clear hK1
  refine Tri.seq fun K2 hK2 => ?_
  refine Tri.region ?_
  refine st (OK1.fieldAddr (Has.t rfl) fld24_0 ty3) rfl ?_
  refine st (OK1.load1 (Has.t rfl) (i := 0) rfl ty3 rfl) rfl ?_
  refine st (OK1.call (zmat_side) (.cons (Has.t rfl) .nil)) rfl ?_
  refine st (OK1.mv (Has.t rfl)) rfl ?_
  refine stT rfl rfl (fun hg => have hg' := BP.t hg; OK1.fieldAddr (Has.t rfl) fld24_1 ty3) rfl ?_
  refine stT rfl rfl (fun hg => have hg' := BP.t hg; OK1.load1 (Has.g rfl hg) (i := 0) rfl ty3 rfl) rfl ?_
  refine stT rfl rfl (fun hg => have hg' := BP.t hg; OK1.call (zmat_side) (.cons (Has.g rfl hg) .nil)) rfl ?_
  refine st (OK1.pickAnd (Has.t rfl) (fun h => Has.g rfl h)) rfl ?_
  refine st (OK1.mv (Has.t rfl)) rfl ?_
  refine stT rfl rfl (fun hg => have hg' := BP.t hg; OK1.fieldAddr (Has.t rfl) fld24_2 ty22) rfl ?_
  refine stT rfl rfl (fun hg => have hg' := BP.t hg; OK1.load1 (Has.g rfl hg) (i := 0) rfl ty22 rfl) rfl ?_
  refine stT rfl rfl (fun hg => have hg' := BP.t hg; OK1.len sl22 (Has.g rfl hg)) rfl ?_
  refine stT rfl rfl (fun hg => have hg' := BP.t hg; OK1.fieldAddr (Has.t rfl) fld24_0 ty3) rfl ?_
  refine stT rfl rfl (fun hg => have hg' := BP.t hg; OK1.load1 (Has.g rfl hg) (i := 0) rfl ty3 rfl) rfl ?_
  refine stT rfl rfl (fun hg => have hg' := BP.t hg; OK1.fieldAddr (Has.t rfl) fld24_1 ty3) rfl ?_
  refine stT rfl rfl (fun hg => have hg' := BP.t hg; OK1.load1 (Has.g rfl hg) (i := 0) rfl ty3 rfl) rfl ?_
  refine stT rfl rfl (fun hg => have hg' := BP.t hg; OK1.mulI (Has.g rfl hg) (Has.g rfl hg) (by have := mul_bnd ⟨hg'.1, hg'.2⟩; omega) (by have := mul_bnd ⟨hg'.1, hg'.2⟩; omega)) rfl ?_
  refine stT rfl rfl (fun hg => have hg' := BP.t hg; OK1.eqI (Has.g rfl hg) (Has.g rfl hg)) rfl ?_
  refine st (OK1.pickAnd (Has.t rfl) (fun h => Has.g rfl h)) rfl ?_
  refine st (OK1.as (Has.t rfl)) rfl ?_
  refine nl ?_
  refine At.thn (hK2 _ _ ?_); clear hK2
  refine Tri.cv (Cv.wk (.cons (t := 2) (Has.t rfl) .nil)) ?_
  refine Tri.ret ?_
  refine rt1 (.inl rfl) Tryz.results22 rfl (.tmp (Has.t' rfl ?_) .nil)
  all_goals (rfl)
set_option maxHeartbeats 4000000 in
theorem zmat_get {r : Int} {C i k : Nat} {xs : List (Bool × List Nat)} (hx : xs.length ≤ 4096) (hl : i * C + k < xs.length) : Ctr Tryz.prog 53 [isM r (C : Int) xs, isI (i : Int), isI (k : Int)] (Flat (zc (xs.getD (i * C + k) (false, [])))) := by
  refine Ctr.intro Tryz.func53 rfl (by kernel_rfl) Tryz.ntmps53 rfl fun w0 F0 => ?_
  refine Tri.cv (Cv.wk (.cons (t := 0) (Has.t rfl) (.cons (t := 1) (Has.t rfl) (.cons (t := 2) (Has.t rfl) .nil)))) ?_
  refine Tri.fact (Has.rngI (Has.t (t := 1) rfl)) fun lt1 => ?_
  refine Tri.fact (Has.rngI (Has.t (t := 2) rfl)) fun lt2 => ?_
  have hcp : ((i : Int) * (C : Int)) = ((i * C : Nat) : Int) := (Int.natCast_mul i C).symm
  refine Tri.seq fun K1 hK1 => ?_
  refine Tri.region ?_
  refine Ops.box (Has.t rfl) rfl fun b1 => ?_
  refine Ops.alloc [isB false, SlM isU []] zero61 (fun _ _ => ⟨rfl, nilM _ _, trivial⟩) rfl fun b2 => ?_
  refine nl ?_
  refine At.thn (hK1 _ _ ?_); clear hK1
  refine Tri.seq fun K2 hK2 => ?_
  refine Tri.region ?_
  refine st (OK1.fieldAddr (Has.t rfl) fld24_2 ty22) rfl ?_
  refine st (OK1.load1 (Has.t rfl) (i := 1) rfl ty22 rfl) rfl ?_
  refine st (OK1.mv (Has.t rfl)) rfl ?_
  refine st (OK1.fieldAddr (Has.t rfl) fld24_1 ty3) rfl ?_
  refine st (OK1.load1 (Has.t rfl) (i := 1) rfl ty3 rfl) rfl ?_
  refine st (OK1.eq (OK1.mulI (Has.t rfl) (Has.t rfl) (by omega) (by omega)) ((show isI _ = isI ((i * C : Nat) : Int) from isI_eq hcp))) rfl ?_
  refine st (OK1.mv (Has.t rfl)) rfl ?_
  refine st (OK1.eq (OK1.addI (Has.t rfl) (Has.t rfl) (by omega) (by omega)) ((show isI _ = isI ((i * C + k : Nat) : Int) from isI_eq (by omega)))) rfl ?_
  refine st (OK1.ixK sl22 ty61 (Has.t rfl) (Has.t rfl) zc_len ⟨by omega, by omega⟩ (getD_some (d := (false, [])) (by omega))) rfl ?_
  refine st (OK1.loadP (Has.t rfl) ty61 rfl (Ss' := [_, _]) rfl) rfl ?_
  refine Ops.store (Has.t rfl) (Has.t rfl) (i := 0) rfl ty61 rfl rfl (Ss' := [_, _]) rfl (M' := [(some _, cellM [_, _]), _]) rfl ?_
  refine nl ?_
  refine At.thn (hK2 _ _ ?_); clear hK2
  refine Tri.cv (Cv.wk (.cons (t := 6) (Has.t rfl) .nil)) ?_
  refine Tri.ret ?_
  refine rt1 (.inl rfl) Tryz.results53 rfl (.cell rfl (i := 0) rfl ty61 rfl ?_ .nil)
  all_goals (rfl)
set_option maxHeartbeats 4000000 in
theorem zmat_has {r c i : Int} {xs : List (Bool × List Nat)} : Ctr Tryz.prog 52 [isM r c xs, isI i] (isB (decide (0 ≤ i) && decide (i < r))) := by
  refine Ctr.intro Tryz.func52 rfl (by kernel_rfl) Tryz.ntmps52 rfl fun w0 F0 => ?_
  refine Tri.cv (Cv.wk (.cons (t := 0) (Has.t rfl) (.cons (t := 1) (Has.t rfl) .nil))) ?_
  refine Tri.fact (Has.rngI (Has.t (t := 1) rfl)) fun lt1 => ?_
  refine Tri.seq fun K1 hK1 => ?_
  refine Tri.region ?_
  refine Ops.box (Has.t rfl) rfl fun b1 => ?_
  refine st (OK1.as (Has.cB false)) rfl ?_
  refine nl ?_
  refine At.thn (hK1 _ _ ?_); clear hK1
  refine Tri.seq fun K2 hK2 => ?_
  refine Tri.region ?_
  refine st (OK1.mv (Has.t rfl)) rfl ?_
  refine st (OK1.geI (Has.t rfl) (Has.cI 0 rfl)) rfl ?_
  refine st (OK1.mv (Has.t rfl)) rfl ?_
  refine stT rfl rfl (fun hg => have hg' := BP.t hg; OK1.mv (Has.t rfl)) rfl ?_
  refine stT rfl rfl (fun hg => have hg' := BP.t hg; OK1.fieldAddr (Has.t rfl) fld24_0 ty3) rfl ?_
  refine stT rfl rfl (fun hg => have hg' := BP.t hg; OK1.load1 (Has.g rfl hg) (i := 0) rfl ty3 rfl) rfl ?_
  refine stT rfl rfl (fun hg => have hg' := BP.t hg; OK1.ltI (Has.g rfl hg) (Has.g rfl hg)) rfl ?_
  refine st (OK1.pickAnd (Has.t rfl) (fun h => Has.g rfl h)) rfl ?_
  refine st (OK1.as (Has.t rfl)) rfl ?_
  refine nl ?_
  refine At.thn (hK2 _ _ ?_); clear hK2
  refine Tri.cv (Cv.wk (.cons (t := 4) (Has.t rfl) .nil)) ?_
  refine Tri.ret ?_
  refine rt1 (.inl rfl) Tryz.results52 rfl (.tmp (Has.t' rfl ?_) .nil)
  all_goals (rfl)
set_option maxHeartbeats 4000000 in
theorem zmat_made {R C : Nat} {f : Nat → Nat → Bool × List Nat} (hR : R ≤ 64) (hC : C ≤ 64) (hf : ∀ i k, i < R → k < C → (List.length (words (val (f i k).2))) ≤ 4294967296) : Ctr Tryz.prog 32 [isI (R : Int), isI (C : Int), isAt Tryz.prog R C f] (isMz R C (tab (R * C) C fun i k => zv (f i k).1 (f i k).2)) := by
  refine Ctr.intro Tryz.func32 rfl (by kernel_rfl) Tryz.ntmps32 rfl fun w0 F0 => ?_
  refine Tri.cv (Cv.wk (.cons (t := 0) (Has.t rfl) (.cons (t := 1) (Has.t rfl) (.cons (t := 2) (Has.t rfl) .nil)))) ?_
  refine Tri.fact (Has.rngI (Has.t (t := 0) rfl)) fun lt0 => ?_
  refine Tri.fact (Has.rngI (Has.t (t := 1) rfl)) fun lt1 => ?_
  have hRC := side_le hR hC
  obtain ⟨G, hG⟩ : ∃ G : Nat → Nat → Int, G = fun i k => zv (f i k).1 (f i k).2 := ⟨_, rfl⟩
  rw [← hG]
  refine Tri.seq fun K1 hK1 => ?_
  refine Tri.region ?_
  refine Ops.alloc [isI 0, isI 0, nilS] zero24 (fun _ _ => ⟨⟨rfl, by decide, by decide⟩, ⟨rfl, by decide, by decide⟩, rfl, trivial⟩) rfl fun b1 => ?_
  refine nl ?_
  refine At.thn (hK1 _ _ ?_); clear hK1
  refine Tri.seq fun K2 hK2 => ?_
  refine Tri.region ?_
  refine st (OK1.mv (Has.t rfl)) rfl ?_
  refine st (OK1.mv (Has.t rfl)) rfl ?_
  refine st (OK1.build [isI 0, isI 0, nilS] pl24 zero24 (fun _ _ => ⟨⟨rfl, by decide, by decide⟩, ⟨rfl, by decide, by decide⟩, rfl, trivial⟩) (.cons (Has.t rfl) rfl rfl rfl (.cons (Has.t rfl) rfl rfl rfl .nil)) (Z'' := [_, _, _]) rfl) rfl ?_
  refine Ops.alloc [isI 0, isI 0, nilS] zero24 (fun _ _ => ⟨⟨rfl, by decide, by decide⟩, ⟨rfl, by decide, by decide⟩, rfl, trivial⟩) rfl fun b2 => ?_
  refine Ops.store (Has.t rfl) (Has.t rfl) (i := 0) rfl ty24 rfl rfl (Ss' := [_, _, _]) rfl (M' := [(some _, cellM [_, _, _]), _]) rfl ?_
  refine nl ?_
  refine At.thn (hK2 _ _ ?_); clear hK2
  refine Tri.seq fun K3 hK3 => ?_
  refine Tri.seq fun K4 hK4 => ?_
  refine Tri.cv (Cv.growF (Bool × List Nat) (i := 0) (o := 2) rfl rfl rfl) ?_
  refine Tri.memEq (M' := [grMK zc Gr.nil [], _, _]) rfl ?_
  refine Tri.region ?_
  refine st (OK1.mv (Has.t rfl)) rfl ?_
  refine st (OK1.mv (Has.cI 0 rfl)) rfl ?_
  refine nl ?_
  refine At.thn (hK4 _ _ ?_); clear hK4
  refine Tri.block ?_
  refine Tri.loopF [1, 2, 6, 7, 14] (fun (z : { z : Nat × Gr (Bool × List Nat) // z.1 ≤ R }) => match z with | ⟨(i, g), hI⟩ => [(15, isI (i : Int))]) (fun M => fun (z : { z : Nat × Gr (Bool × List Nat) // z.1 ≤ R }) => match z with | ⟨(i, g), hI⟩ => [grMK zc g ((tab (i * C + 0) C G).map nz), (some b2, cellM [isI (R : Int), isI (C : Int), isGr g ((tab (i * C + 0) C G).map nz).length]), (some b1, cellM [isI 0, isI 0, nilS])]) (fun (z : { z : Nat × Gr (Bool × List Nat) // z.1 ≤ R }) => match z with | ⟨(i, g), hI⟩ => R - i) (⟨(0, Gr.nil), Nat.zero_le _⟩) (Cv.mem (.cons (t := 15) (Has.t' rfl ?_) (.cons (t := 1) (Has.t rfl) (.cons (t := 2) (Has.t rfl) (.cons (t := 6) (Has.t rfl) (.cons (t := 7) (Has.t rfl) (.cons (t := 14) (Has.t rfl) .nil)))))) ?_) ?_
  · rfl
  · exact grF_eq (n := 0) (ys := []) (by rw [List.length_map, tab_len, Nat.zero_mul]) (show [] = (tab (0 * C + 0) C G).map nz by rw [Nat.zero_mul]; rfl)
  rintro ⟨⟨i, g⟩, hI⟩ K5 hK5
  refine Tri.cv (Cv.wk (.cons (t := 15) (Has.t rfl) (.cons (t := 1) (Has.t rfl) (.cons (t := 2) (Has.t rfl) (.cons (t := 6) (Has.t rfl) (.cons (t := 7) (Has.t rfl) (.cons (t := 14) (Has.t rfl) .nil))))))) ?_
  refine Tri.memEq (M' := [grMK zc g ((tab (i * C + 0) C G).map nz), (some b2, cellM [isI (R : Int), isI (C : Int), isGr g ((tab (i * C + 0) C G).map nz).length]), (some b1, cellM [isI 0, isI 0, nilS])]) rfl ?_
  simp only [] at hI
  refine Tri.seq fun K6 hK6 => ?_
  refine Tri.region ?_
  refine st (OK1.ltI (Has.t rfl) (Has.t rfl)) rfl ?_
  refine nl ?_
  refine At.thn (hK6 _ _ ?_); clear hK6
  refine Tri.seq fun K7 hK7 => ?_
  refine Tri.cond (Has.t rfl) (fun hc1 => ?_) (fun hc1 => ?_)
  · have hc1 := BP.t hc1
    refine Tri.skip ?_
    refine At.thn (hK7 _ _ ?_); clear hK7
    refine Tri.seq fun K8 hK8 => ?_
    refine Tri.block ?_
    refine Tri.seq fun K9 hK9 => ?_
    refine Tri.region ?_
    refine st (OK1.mv (Has.t rfl)) rfl ?_
    refine st (OK1.as (Has.t rfl)) rfl ?_
    refine nl ?_
    refine At.thn (hK9 _ _ ?_); clear hK9
    refine Tri.seq fun K10 hK10 => ?_
    refine Tri.region ?_
    refine st (OK1.mv (Has.t rfl)) rfl ?_
    refine st (OK1.mv (Has.cI 0 rfl)) rfl ?_
    refine nl ?_
    refine At.thn (hK10 _ _ ?_); clear hK10
    refine Tri.block ?_
    refine Tri.loopF [1, 2, 6, 7, 14, 15, 16, 17, 8, 18] (fun (z : { z : Nat × Gr (Bool × List Nat) // z.1 ≤ C }) => match z with | ⟨(k, g2), hK⟩ => [(19, isI (k : Int))]) (fun M => fun (z : { z : Nat × Gr (Bool × List Nat) // z.1 ≤ C }) => match z with | ⟨(k, g2), hK⟩ => [grMK zc g2 ((tab (i * C + k) C G).map nz), (some b2, cellM [isI (R : Int), isI (C : Int), isGr g2 ((tab (i * C + k) C G).map nz).length]), (some b1, cellM [isI 0, isI 0, nilS])]) (fun (z : { z : Nat × Gr (Bool × List Nat) // z.1 ≤ C }) => match z with | ⟨(k, g2), hK⟩ => C - k) (⟨(0, g), Nat.zero_le _⟩) (Cv.mem (.cons (t := 19) (Has.t' rfl ?_) (.cons (t := 1) (Has.t rfl) (.cons (t := 2) (Has.t rfl) (.cons (t := 6) (Has.t rfl) (.cons (t := 7) (Has.t rfl) (.cons (t := 14) (Has.t rfl) (.cons (t := 15) (Has.t rfl) (.cons (t := 16) (Has.t rfl) (.cons (t := 17) (Has.t rfl) (.cons (t := 8) (Has.t rfl) (.cons (t := 18) (Has.t rfl) .nil))))))))))) ?_) ?_
    · rfl
    · rfl
    rintro ⟨⟨k, g2⟩, hK⟩ K11 hK11
    refine Tri.cv (Cv.wk (.cons (t := 19) (Has.t rfl) (.cons (t := 1) (Has.t rfl) (.cons (t := 2) (Has.t rfl) (.cons (t := 6) (Has.t rfl) (.cons (t := 7) (Has.t rfl) (.cons (t := 14) (Has.t rfl) (.cons (t := 15) (Has.t rfl) (.cons (t := 16) (Has.t rfl) (.cons (t := 17) (Has.t rfl) (.cons (t := 8) (Has.t rfl) (.cons (t := 18) (Has.t rfl) .nil)))))))))))) ?_
    refine Tri.memEq (M' := [grMK zc g2 ((tab (i * C + k) C G).map nz), (some b2, cellM [isI (R : Int), isI (C : Int), isGr g2 ((tab (i * C + k) C G).map nz).length]), (some b1, cellM [isI 0, isI 0, nilS])]) rfl ?_
    simp only [] at hK
    refine Tri.seq fun K12 hK12 => ?_
    refine Tri.region ?_
    refine st (OK1.ltI (Has.t rfl) (Has.t rfl)) rfl ?_
    refine nl ?_
    refine At.thn (hK12 _ _ ?_); clear hK12
    refine Tri.seq fun K13 hK13 => ?_
    refine Tri.cond (Has.t rfl) (fun hc2 => ?_) (fun hc2 => ?_)
    · have hc2 := BP.t hc2
      refine Tri.skip ?_
      refine At.thn (hK13 _ _ ?_); clear hK13
      refine Tri.seq fun K14 hK14 => ?_
      refine Tri.block ?_
      refine Tri.seq fun K15 hK15 => ?_
      refine Tri.region ?_
      refine st (OK1.mv (Has.t rfl)) rfl ?_
      refine st (OK1.as (Has.t rfl)) rfl ?_
      refine nl ?_
      refine At.thn (hK15 _ _ ?_); clear hK15
      refine Tri.seq fun K16 hK16 => ?_
      refine Tri.region ?_
      refine st (OK1.mv (Has.t rfl)) rfl ?_
      refine st (OK1.mv (Has.t rfl)) rfl ?_
      refine st (OK1.mv (Has.t rfl)) rfl ?_
      refine st (OK1.callV ⟨(i, k), by omega, by omega⟩ (Has.t rfl) (.cons (Has.t rfl) (.cons (Has.t rfl) .nil))) rfl ?_
      refine Ops.alloc [isB false, SlM isU []] zero61 (fun _ _ => ⟨rfl, nilM _ _, trivial⟩) rfl fun b3 => ?_
      refine Ops.store (Has.t rfl) (Has.t rfl) (i := 0) rfl ty61 rfl rfl (Ss' := [_, _]) rfl (M' := [(some _, cellM [_, _]), _, _, _]) rfl ?_
      refine nl ?_
      refine At.thn (hK16 _ _ ?_); clear hK16
      refine Tri.dr ?_
      refine DrG.st (i := 0) [] rfl rfl rfl (by kernel_rfl) (OKG.o rfl (OK1.fieldAddr (Has.t rfl) fld24_2 ty22)) ?_
      refine DrG.st (i := 1) [26] rfl rfl rfl (by kernel_rfl) (OKG.o rfl (OK1.load1 (Has.t rfl) (i := 2) rfl ty22 rfl)) ?_
      refine DrG.st (i := 2) [] rfl rfl rfl (by kernel_rfl) (OKG.o rfl (OK1.fieldAddr (Has.t rfl) fld61_1 ty59)) ?_
      refine DrG.st (i := 3) [28] rfl rfl rfl (by kernel_rfl) (OKG.o rfl (OK1.load1 (Has.t rfl) (i := 0) rfl ty59 rfl)) ?_
      refine DrG.st (i := 4) [] rfl rfl rfl (by kernel_rfl) (OKG.o rfl (OK1.fieldAddr (Has.t rfl) fld61_0 ty4)) ?_
      refine DrG.st (i := 5) [30] rfl rfl rfl (by kernel_rfl) (OKG.o rfl (OK1.load1 (Has.t rfl) (i := 0) rfl ty4 rfl)) ?_
      refine DrG.st (i := 6) [29, 31] rfl rfl rfl (by kernel_rfl) (OKG.o rfl (OK1.eq (OK1.call (zint_From (hf i k (by omega) (by omega))) (.cons (Has.t rfl) (.cons (Has.t rfl) .nil))) ((show isZ _ = Flat (zc (nz (G i k))) from isZ_eq (by rw [hG]))))) ?_
      refine DrG.st (i := 7) [32] rfl rfl rfl (by kernel_rfl) (OKG.o rfl (OK1.buildS [isB false, SlM isU []] sl22 ty61 zero61 (fun _ _ => ⟨rfl, nilM _ _, trivial⟩) rfl rfl (.cons (Has.t rfl) rfl rfl rfl .nil) rfl (S := SlK 2 zc [nz (G i k)]) rfl)) ?_
      refine DrG.fin (n := 8) mixed (by kernel_rfl) (by kernel_rfl) (by kernel_rfl) ?_
      refine Ops.cv (Cv.wk (.cons (t := 1) (Has.t rfl) (.cons (t := 2) (Has.t rfl) (.cons (t := 6) (Has.t rfl) (.cons (t := 7) (Has.t rfl) (.cons (t := 14) (Has.t rfl) (.cons (t := 15) (Has.t rfl) (.cons (t := 16) (Has.t rfl) (.cons (t := 17) (Has.t rfl) (.cons (t := 8) (Has.t rfl) (.cons (t := 18) (Has.t rfl) (.cons (t := 19) (Has.t rfl) (.cons (t := 20) (Has.t rfl) (.cons (t := 21) (Has.t rfl) (.cons (t := 9) (Has.t rfl) (.cons (t := 22) (Has.t rfl) (.cons (t := 23) (Has.t rfl) (.cons (t := 24) (Has.t rfl) (.cons (t := 25) (Has.t rfl) (.cons (t := 10) (Has.t rfl) (.cons (t := 26) (Has.t rfl) (.cons (t := 27) (Has.t rfl) (.cons (t := 28) (Has.t rfl) (.cons (t := 29) (Has.t rfl) (.cons (t := 30) (Has.t rfl) (.cons (t := 31) (Has.t rfl) (.cons (t := 32) (Has.t rfl) (.cons (t := 33) (Has.t rfl) .nil)))))))))))))))))))))))))))) ?_
      refine Ops.appendGK (fk := zc) (u := (false, [])) zc_len (by decide) (fun _ => inferInstance) sl22 ty61 zero61 (fun _ _ => ⟨rfl, nilM _ _, trivial⟩) by61 (Has.t rfl) (i := 1) rfl (Has.t rfl) (by have hpl := place_lt (show i < R by omega) (show k < C by omega); rw [List.length_map, tab_len]; show i * C + k + 1 ≤ _; omega) (by simp) rfl fun gr1 => ?_
      refine Ops.memEq (M' := [_, grMK _ _ _, _, _]) rfl ?_
      refine st (OK1.fieldAddr (Has.t rfl) fld24_2 ty22) rfl ?_
      refine Ops.store (Has.t rfl) (Has.t rfl) (i := 2) rfl ty22 rfl rfl (Ss' := [_, _, _]) rfl (M' := [_, _, (some _, cellM [_, _, _]), _]) rfl ?_
      refine nl ?_
      refine At.bln ?_
      refine At.thn (hK14 _ _ ?_); clear hK14
      refine Tri.region ?_
      refine st (OK1.addI (Has.t rfl) (Has.cI 1 rfl) (by omega) (by omega)) rfl ?_
      refine st (OK1.mv (Has.t rfl)) rfl ?_
      refine nl ?_
      refine At.thn ?_
      have hpl := place_lt (show i < R by omega) (show k < C by omega)
      refine hK11 (⟨(k + 1, gr1), by show k + 1 ≤ C; omega⟩) _ _ ?_ (Cv.trans (Cv.drop ((.cons _ (.cons_cons _ (.cons_cons _ (.cons_cons _ .slnil)))))) (Cv.mem (.cons (t := 19) (Has.t' rfl ?_) (.cons (t := 1) (Has.t rfl) (.cons (t := 2) (Has.t rfl) (.cons (t := 6) (Has.t rfl) (.cons (t := 7) (Has.t rfl) (.cons (t := 14) (Has.t rfl) (.cons (t := 15) (Has.t rfl) (.cons (t := 16) (Has.t rfl) (.cons (t := 17) (Has.t rfl) (.cons (t := 8) (Has.t rfl) (.cons (t := 18) (Has.t rfl) .nil))))))))))) ?_))
      · show C - (k + 1) < C - k; omega
      · exact isI_eq (by omega)
      · exact grF_eq (by rw [← tab_succ G (show k < C by omega), List.map_append, List.length_append]; rfl) (by rw [← tab_succ G (show k < C by omega), List.map_append]; rfl)
    · have hc2 := BP.f hc2
      refine Tri.exit ?_
      refine At.the ?_
      refine At.the ?_
      refine At.blh ?_
      refine At.bln ?_
      refine At.thn (hK8 _ _ ?_); clear hK8
      refine Tri.region ?_
      refine st (OK1.addI (Has.t rfl) (Has.cI 1 rfl) (by omega) (by omega)) rfl ?_
      refine st (OK1.mv (Has.t rfl)) rfl ?_
      refine nl ?_
      refine At.thn ?_
      have hkC : k = C := by omega
      subst hkC
      refine hK5 (⟨(i + 1, g2), by show i + 1 ≤ R; omega⟩) _ _ ?_ (Cv.mem (.cons (t := 15) (Has.t' rfl ?_) (.cons (t := 1) (Has.t rfl) (.cons (t := 2) (Has.t rfl) (.cons (t := 6) (Has.t rfl) (.cons (t := 7) (Has.t rfl) (.cons (t := 14) (Has.t rfl) .nil)))))) ?_)
      · show R - (i + 1) < R - i; omega
      · exact isI_eq (by omega)
      · exact grF_eq (by rw [tab_next]) (by rw [tab_next])
  · have hc1 := BP.f hc1
    refine Tri.exit ?_
    refine At.the ?_
    refine At.the ?_
    refine At.blh ?_
    refine At.thn (hK3 _ _ ?_); clear hK3
    refine Tri.cv (Cv.wk (.cons (t := 6) (Has.t rfl) (.cons (t := 7) (Has.t rfl) .nil))) ?_
    refine Tri.seq fun K17 hK17 => ?_
    refine Tri.cv (Cv.freezeF (k := 2) (i := 0) (j := 0) (o := 2) rfl rfl rfl rfl (gr_lenK zc_len) (gr_takeK zc_len) (Ss' := [_, _, SlK 2 zc ((tab (i * C + 0) C G).map nz)]) rfl) ?_
    refine Tri.memEq (M' := [(some _, cellM [_, _, SlK 2 zc ((tab (i * C + 0) C G).map nz)]), _]) rfl ?_
    refine Tri.cv (Cv.wk (.cons (t := 6) (Has.t rfl) (.cons (t := 7) (Has.t rfl) .nil))) ?_
    refine Tri.region ?_
    refine st (OK1.load (Has.t rfl) (i := 0) rfl ty24 rfl (Ss' := [_, _, _]) rfl) rfl ?_
    refine Ops.store (Has.t rfl) (Has.t rfl) (i := 1) rfl ty24 rfl rfl (Ss' := [_, _, _]) rfl (M' := [_, (some _, cellM [_, _, _])]) rfl ?_
    refine nl ?_
    refine At.thn (hK17 _ _ ?_); clear hK17
    refine Tri.ret ?_
    refine rt1 (.inl rfl) Tryz.results32 rfl (.cell rfl (i := 1) rfl ty24 rfl ?_ .nil)
    all_goals (rw [Nat.add_zero, show i = R by omega])
end Go.Proofs.YtkgipdidomikbaaGreat
/- Contracts: products and transposes of matrices. -/
namespace Go.Proofs.YtkgipdidomikbaaGreat
open Go.En Go.RowKit
set_option linter.unusedVariables false
set_option maxRecDepth 10000
open Go.Nt
open Go.Pz
open Go.Mz
set_option maxHeartbeats 4000000 in
theorem zmat_Of_1 {C i k : Nat} {l : List Int} (hx : l.length ≤ 4096) (hl : i * C + k < l.length) : Ctr Tryz.prog 33 [isI (i : Int), isI (k : Int), PtrL [SlM isI l], PtrL [isI (C : Int)]] (isZ (cf l (i * C + k))) := by
  refine Ctr.intro Tryz.func33 rfl (by kernel_rfl) Tryz.ntmps33 rfl fun w0 F0 => ?_
  refine Tri.cv (Cv.wk (.cons (t := 0) (Has.t rfl) (.cons (t := 1) (Has.t rfl) (.cons (t := 2) (Has.t rfl) (.cons (t := 3) (Has.t rfl) .nil))))) ?_
  refine Tri.fact (Has.rngI (Has.t (t := 0) rfl)) fun lt0 => ?_
  refine Tri.fact (Has.rngI (Has.t (t := 1) rfl)) fun lt1 => ?_
  have hcp : ((i : Int) * (C : Int)) = ((i * C : Nat) : Int) := (Int.natCast_mul i C).symm
  refine Tri.seq fun K1 hK1 => ?_
  refine Tri.region ?_
  refine Ops.alloc [isB false, SlM isU []] zero61 (fun _ _ => ⟨rfl, nilM _ _, trivial⟩) rfl fun b1 => ?_
  refine nl ?_
  refine At.thn (hK1 _ _ ?_); clear hK1
  refine Tri.seq fun K2 hK2 => ?_
  refine Tri.region ?_
  refine st (OK1.loadP1 (Has.t rfl) ty70) rfl ?_
  refine st (OK1.mv (Has.t rfl)) rfl ?_
  refine st (OK1.loadP1 (Has.t rfl) ty3) rfl ?_
  refine st (OK1.eq (OK1.mulI (Has.t rfl) (Has.t rfl) (by omega) (by omega)) ((show isI _ = isI ((i * C : Nat) : Int) from isI_eq hcp))) rfl ?_
  refine st (OK1.mv (Has.t rfl)) rfl ?_
  refine st (OK1.eq (OK1.addI (Has.t rfl) (Has.t rfl) (by omega) (by omega)) ((show isI _ = isI ((i * C + k : Nat) : Int) from isI_eq (by omega)))) rfl ?_
  refine st (OK1.ixP sl70 ty2 (Has.t rfl) (Has.t rfl) ⟨by omega, by omega⟩ (getD_some (d := 0) (by omega))) rfl ?_
  refine st (OK1.loadP1 (Has.t rfl) ty2) rfl ?_
  refine st (OK1.call (zint_Of) (.cons (Has.t rfl) .nil)) rfl ?_
  refine Ops.store (Has.t rfl) (Has.t rfl) (i := 0) rfl ty61 rfl rfl (Ss' := [_, _]) rfl (M' := [(some _, cellM [_, _])]) rfl ?_
  refine nl ?_
  refine At.thn (hK2 _ _ ?_); clear hK2
  refine Tri.cv (Cv.wk (.cons (t := 6) (Has.t rfl) .nil)) ?_
  refine Tri.ret ?_
  refine rt1 (.inl rfl) Tryz.results33 rfl (.cell rfl (i := 0) rfl ty61 rfl ?_ .nil)
  all_goals (rfl)
set_option maxHeartbeats 4000000 in
theorem zmat_Of {R C : Nat} {l : List Int} (hR : R ≤ 64) (hC : C ≤ 64) (hl : l.length = R * C) (hb : ∀ y ∈ l, -9223372036854775808 ≤ y ∧ y < 9223372036854775808) : Ctr Tryz.prog 13 [isI (R : Int), isI (C : Int), SlM isI l] (isTup [isMz R C (tab (R * C) C fun i k => cf l (i * C + k)), isI 0]) := by
  refine Ctr.intro Tryz.func13 rfl (by kernel_rfl) Tryz.ntmps13 rfl fun w0 F0 => ?_
  refine Tri.cv (Cv.wk (.cons (t := 0) (Has.t rfl) (.cons (t := 1) (Has.t rfl) (.cons (t := 2) (Has.t rfl) .nil)))) ?_
  refine Tri.fact (Has.rngI (Has.t (t := 0) rfl)) fun lt0 => ?_
  refine Tri.fact (Has.rngI (Has.t (t := 1) rfl)) fun lt1 => ?_
  refine Tri.fact (Has.lenLt (Has.t (t := 2) rfl)) fun lt2 => ?_
  have hRC := side_le hR hC
  have hcp : ((R : Int) * (C : Int)) = ((R * C : Nat) : Int) := (Int.natCast_mul R C).symm
  refine Tri.seq fun K1 hK1 => ?_
  refine Tri.region ?_
  refine Ops.box (Has.t rfl) rfl fun b1 => ?_
  refine Ops.box (Has.t rfl) rfl fun b2 => ?_
  refine Ops.alloc [isI 0, isI 0, nilS] zero24 (fun _ _ => ⟨⟨rfl, by decide, by decide⟩, ⟨rfl, by decide, by decide⟩, rfl, trivial⟩) rfl fun b3 => ?_
  refine st (OK1.as (Has.cI 0 rfl)) rfl ?_
  refine nl ?_
  refine At.thn (hK1 _ _ ?_); clear hK1
  refine Tri.seq fun K2 hK2 => ?_
  refine Tri.block ?_
  refine Tri.seq fun K3 hK3 => ?_
  refine Tri.region ?_
  refine st (OK1.mv (Has.t rfl)) rfl ?_
  refine st (OK1.call (zmat_side) (.cons (Has.t rfl) .nil)) rfl ?_
  refine st (OK1.not (Has.t rfl)) rfl ?_
  refine st (OK1.mv (Has.t rfl)) rfl ?_
  refine stF rfl rfl (fun hg => have hg' := BP.t hg; OK1.load1 (Has.t rfl) (i := 2) rfl ty3 rfl) rfl ?_
  refine stF rfl rfl (fun hg => have hg' := BP.t hg; OK1.call (zmat_side) (.cons (Has.g rfl hg) .nil)) rfl ?_
  refine stF rfl rfl (fun hg => have hg' := BP.t hg; OK1.not (Has.g rfl hg)) rfl ?_
  refine st (OK1.pickOr (Has.t rfl) (fun h => Has.g rfl (ng h))) rfl ?_
  refine st (OK1.as (Has.t rfl)) rfl ?_
  refine nl ?_
  refine At.thn (hK3 _ _ ?_); clear hK3
  refine Tri.cv (Cv.wk (.cons (t := 0) (Has.t rfl) (.cons (t := 4) (Has.t rfl) (.cons (t := 5) (Has.t rfl) (.cons (t := 6) (Has.t rfl) (.cons (t := 7) (Has.t rfl) (.cons (t := 8) (Has.t rfl) .nil))))))) ?_
  refine Tri.cond (Has.t rfl) (fun hc1 => ?_) (fun hc1 => ?_)
  · have hc1 := BP.t hc1
    omega
  · have hc1 := BP.f hc1
    refine Tri.seq fun K4 hK4 => ?_
    refine Tri.region ?_
    refine st (OK1.load1 (Has.t rfl) (i := 1) rfl ty70 rfl) rfl ?_
    refine st (OK1.len sl70 (Has.t rfl)) rfl ?_
    refine st (OK1.mv (Has.t rfl)) rfl ?_
    refine st (OK1.load1 (Has.t rfl) (i := 2) rfl ty3 rfl) rfl ?_
    refine st (OK1.mulI (Has.t rfl) (Has.t rfl) (by rw [hcp]; omega) (by rw [hcp]; omega)) rfl ?_
    refine st (OK1.neI (Has.t rfl) (Has.t rfl)) rfl ?_
    refine st (OK1.as (Has.t rfl)) rfl ?_
    refine nl ?_
    refine At.thn (hK4 _ _ ?_); clear hK4
    refine Tri.cv (Cv.wk (.cons (t := 0) (Has.t rfl) (.cons (t := 4) (Has.t rfl) (.cons (t := 5) (Has.t rfl) (.cons (t := 6) (Has.t rfl) (.cons (t := 7) (Has.t rfl) (.cons (t := 18) (Has.t rfl) .nil))))))) ?_
    refine Tri.cond (Has.t rfl) (fun hc2 => ?_) (fun hc2 => ?_)
    · have hc2 := BP.t hc2
      rw [hcp] at hc2; omega
    · have hc2 := BP.f hc2
      refine Tri.skip ?_
      refine At.bln ?_
      refine At.thn (hK2 _ _ ?_); clear hK2
      refine Tri.seq fun K5 hK5 => ?_
      refine Tri.region ?_
      refine st (OK1.mv (Has.t rfl)) rfl ?_
      refine st (OK1.load1 (Has.t rfl) (i := 2) rfl ty3 rfl) rfl ?_
      refine Ops.cv (Cv.freezeBox (t := 5) (i := 1) rfl rfl rfl) ?_
      refine Ops.memEq (M' := [_, _]) rfl ?_
      refine Ops.cv (Cv.wk (.cons (t := 0) (Has.t rfl) (.cons (t := 4) (Has.t rfl) (.cons (t := 5) (Has.t rfl) (.cons (t := 6) (Has.t rfl) (.cons (t := 7) (Has.t rfl) (.cons (t := 18) (Has.t rfl) (.cons (t := 26) (Has.t rfl) (.cons (t := 27) (Has.t rfl) .nil))))))))) ?_
      refine Ops.cv (Cv.freezeBox (t := 4) (i := 1) rfl rfl rfl) ?_
      refine Ops.memEq (M' := [_]) rfl ?_
      refine Ops.cv (Cv.wk (.cons (t := 0) (Has.t rfl) (.cons (t := 4) (Has.t rfl) (.cons (t := 5) (Has.t rfl) (.cons (t := 6) (Has.t rfl) (.cons (t := 7) (Has.t rfl) (.cons (t := 18) (Has.t rfl) (.cons (t := 26) (Has.t rfl) (.cons (t := 27) (Has.t rfl) .nil))))))))) ?_
      refine st (OK1.makeFn (ι := PI R C) (As := fun p => [isI (p.1.1 : Int), isI (p.1.2 : Int)]) (R := fun p => Flat (zc (nz (cf l (p.1.1 * C + p.1.2))))) (fun p => zmat_Of_1 (by omega) (by rw [hl]; exact place_lt p.2.1 p.2.2)) .nil (.cons (Has.t rfl) (.cons (Has.t rfl) .nil))) rfl ?_
      refine st (OK1.call (zmat_made (f := fun i k => nz (cf l (i * C + k))) hR hC (fun i k _ _ => by rw [val_words]; exact Nat.le_trans (bd64 hb _) (by decide))) (.cons (Has.t rfl) (.cons (Has.t rfl) (.cons (Has.t rfl) .nil)))) rfl ?_
      refine Ops.store (Has.t rfl) (Has.t rfl) (i := 0) rfl ty24 rfl rfl (Ss' := [_, _, _]) rfl (M' := [(some _, cellM [_, _, _])]) rfl ?_
      refine st (OK1.as (Has.cI 0 rfl)) rfl ?_
      refine nl ?_
      refine At.thn (hK5 _ _ ?_); clear hK5
      refine Tri.cv (Cv.wk (.cons (t := 6) (Has.t rfl) (.cons (t := 7) (Has.t rfl) .nil))) ?_
      refine Tri.ret ?_
      refine rtN (.inl rfl) Tryz.results13 rfl rfl (.cell rfl (i := 0) rfl ty24 rfl ?_ (.tmp (Has.t' rfl ?_) .nil))
      · exact isMz_eq (by rw [zvz fun i k => cf l (i * C + k)])
      · rfl
set_option maxHeartbeats 4000000 in
theorem zmat_At {R C i k : Nat} {xs : List (Bool × List Nat)} {K : Nat} (hx : Bd (vals xs) K) (hK : K ≤ 4000000000) (hR : R ≤ 64) (hC : C ≤ 64) (hl : xs.length = R * C) (hi : i < R) (hk : k < C) : Ctr Tryz.prog 26 [isM (R : Int) (C : Int) xs, isI (i : Int), isI (k : Int)] (isZ (cf (vals xs) (i * C + k))) := by
  refine Ctr.intro Tryz.func26 rfl (by kernel_rfl) Tryz.ntmps26 rfl fun w0 F0 => ?_
  refine Tri.cv (Cv.wk (.cons (t := 0) (Has.t rfl) (.cons (t := 1) (Has.t rfl) (.cons (t := 2) (Has.t rfl) .nil)))) ?_
  refine Tri.fact (Has.rngI (Has.t (t := 1) rfl)) fun lt1 => ?_
  refine Tri.fact (Has.rngI (Has.t (t := 2) rfl)) fun lt2 => ?_
  have hRC := side_le hR hC
  have hpl := place_lt hi hk
  have hfo := formB_true hR hC hl
  have hxr := hx.raw (i * C + k)
  refine Tri.seq fun K1 hK1 => ?_
  refine Tri.region ?_
  refine Ops.box (Has.t rfl) rfl fun b1 => ?_
  refine Ops.alloc [isB false, SlM isU []] zero61 (fun _ _ => ⟨rfl, nilM _ _, trivial⟩) rfl fun b2 => ?_
  refine nl ?_
  refine At.thn (hK1 _ _ ?_); clear hK1
  refine Tri.seq fun K2 hK2 => ?_
  refine Tri.seq fun K3 hK3 => ?_
  refine Tri.region ?_
  refine st (OK1.load (Has.t rfl) (i := 1) rfl ty24 rfl (Ss' := [_, _, _]) rfl) rfl ?_
  refine st (OK1.eq (OK1.call (zmat_Formed) (.cons (Has.t rfl) .nil)) ((show isB _ = isB true from isB_eq hfo))) rfl ?_
  refine st (OK1.not (Has.t rfl)) rfl ?_
  refine st (OK1.mv (Has.t rfl)) rfl ?_
  refine stF rfl rfl (fun hg => have hg' := BP.t hg; OK1.load (Has.t rfl) (i := 1) rfl ty24 rfl (Ss' := [_, _, _]) rfl) rfl ?_
  refine stF rfl rfl (fun hg => have hg' := BP.t hg; OK1.mv (Has.t rfl)) rfl ?_
  refine stF rfl rfl (fun hg => have hg' := BP.t hg; OK1.call (zmat_has) (.cons (Has.g rfl hg) (.cons (Has.g rfl hg) .nil))) rfl ?_
  refine stF rfl rfl (fun hg => have hg' := BP.t hg; OK1.not (Has.g rfl hg)) rfl ?_
  refine st (OK1.pickOr (Has.t rfl) (fun h => Has.g rfl (ng h))) rfl ?_
  refine st (OK1.mv (Has.t rfl)) rfl ?_
  refine stF rfl rfl (fun hg => have hg' := BP.t hg; OK1.mv (Has.t rfl)) rfl ?_
  refine stF rfl rfl (fun hg => have hg' := BP.t hg; OK1.ltI (Has.g rfl hg) (Has.cI 0 rfl)) rfl ?_
  refine st (OK1.pickOr (Has.t rfl) (fun h => Has.g rfl (ng h))) rfl ?_
  refine st (OK1.mv (Has.t rfl)) rfl ?_
  refine stF rfl rfl (fun hg => have hg' := BP.t hg; OK1.mv (Has.t rfl)) rfl ?_
  refine stF rfl rfl (fun hg => have hg' := BP.t hg; OK1.fieldAddr (Has.t rfl) fld24_1 ty3) rfl ?_
  refine stF rfl rfl (fun hg => have hg' := BP.t hg; OK1.load1 (Has.g rfl hg) (i := 1) rfl ty3 rfl) rfl ?_
  refine stF rfl rfl (fun hg => have hg' := BP.t hg; OK1.geI (Has.g rfl hg) (Has.g rfl hg)) rfl ?_
  refine st (OK1.pickOr (Has.t rfl) (fun h => Has.g rfl (ng h))) rfl ?_
  refine nl ?_
  refine At.thn (hK3 _ _ ?_); clear hK3
  refine Tri.cv (Cv.wk (.cons (t := 1) (Has.t rfl) (.cons (t := 2) (Has.t rfl) (.cons (t := 3) (Has.t rfl) (.cons (t := 6) (Has.t rfl) (.cons (t := 26) (Has.t rfl) .nil)))))) ?_
  refine Tri.cond (Has.t rfl) (fun hc1 => ?_) (fun hc1 => ?_)
  · have hc1 := BP.t hc1
    simp at hc1; omega
  · have hc1 := BP.f hc1
    refine Tri.skip ?_
    refine At.thn (hK2 _ _ ?_); clear hK2
    refine Tri.seq fun K4 hK4 => ?_
    refine Tri.region ?_
    refine st (OK1.load (Has.t rfl) (i := 1) rfl ty24 rfl (Ss' := [_, _, _]) rfl) rfl ?_
    refine st (OK1.mv (Has.t rfl)) rfl ?_
    refine st (OK1.mv (Has.t rfl)) rfl ?_
    refine st (OK1.call (zmat_get (i := i) (k := k) (by omega) (by omega)) (.cons (Has.t rfl) (.cons (Has.t rfl) (.cons (Has.t rfl) .nil)))) rfl ?_
    refine Ops.alloc [isB false, SlM isU []] zero61 (fun _ _ => ⟨rfl, nilM _ _, trivial⟩) rfl fun b3 => ?_
    refine Ops.store (Has.t rfl) (Has.t rfl) (i := 0) rfl ty61 rfl rfl (Ss' := [_, _]) rfl (M' := [(some _, cellM [_, _]), _, _]) rfl ?_
    refine nl ?_
    refine At.thn (hK4 _ _ ?_); clear hK4
    refine Tri.cv (Cv.wk (.cons (t := 6) (Has.t rfl) (.cons (t := 7) (Has.t rfl) .nil))) ?_
    refine Tri.seq fun K5 hK5 => ?_
    refine Tri.region ?_
    refine st (OK1.fieldAddr (Has.t rfl) fld61_1 ty59) rfl ?_
    refine st (OK1.load1 (Has.t rfl) (i := 0) rfl ty59 rfl) rfl ?_
    refine st (OK1.fieldAddr (Has.t rfl) fld61_0 ty4) rfl ?_
    refine st (OK1.load1 (Has.t rfl) (i := 0) rfl ty4 rfl) rfl ?_
    refine st (OK1.call (zint_From (by omega)) (.cons (Has.t rfl) (.cons (Has.t rfl) .nil))) rfl ?_
    refine Ops.store (Has.t rfl) (Has.t rfl) (i := 1) rfl ty61 rfl rfl (Ss' := [_, _]) rfl (M' := [_, (some _, cellM [_, _]), _]) rfl ?_
    refine nl ?_
    refine At.thn (hK5 _ _ ?_); clear hK5
    refine Tri.cv (Cv.wk (.cons (t := 6) (Has.t rfl) .nil)) ?_
    refine Tri.ret ?_
    refine rt1 (.inl rfl) Tryz.results26 rfl (.cell rfl (i := 1) rfl ty61 rfl ?_ .nil)
    all_goals (exact isZ_eq (by rw [cf_vals]))
set_option maxHeartbeats 4000000 in
theorem zmat_Mul_1 {R C D i k K L : Nat} {xs ys : List (Bool × List Nat)} (hx : Bd (vals xs) K) (hy : Bd (vals ys) L) (hK : K + L ≤ 400000000) (hC : C ≤ 64) (hxl : xs.length = R * C) (hyl : ys.length = C * D) (hxm : xs.length ≤ 4096) (hym : ys.length ≤ 4096) (hi : i < R) (hk : k < D) : Ctr Tryz.prog 66 [isI (i : Int), isI (k : Int), ptM (R : Int) (C : Int) xs, ptM (C : Int) (D : Int) ys] (isZ (dotS (fun j => cf (vals xs) (i * C + j)) (fun j => cf (vals ys) (j * D + k)) C)) := by
  refine Ctr.intro Tryz.func66 rfl (by kernel_rfl) Tryz.ntmps66 rfl fun w0 F0 => ?_
  refine Tri.cv (Cv.wk (.cons (t := 0) (Has.t rfl) (.cons (t := 1) (Has.t rfl) (.cons (t := 2) (Has.t rfl) (.cons (t := 3) (Has.t rfl) .nil))))) ?_
  refine Tri.fact (Has.rngI (Has.t (t := 0) rfl)) fun lt0 => ?_
  refine Tri.fact (Has.rngI (Has.t (t := 1) rfl)) fun lt1 => ?_
  obtain ⟨f, hf⟩ : ∃ f : Nat → Int, f = fun j => cf (vals xs) (i * C + j) := ⟨_, rfl⟩
  obtain ⟨g, hg⟩ : ∃ g : Nat → Int, g = fun j => cf (vals ys) (j * D + k) := ⟨_, rfl⟩
  rw [← hf, ← hg]
  refine Tri.seq fun K1 hK1 => ?_
  refine Tri.region ?_
  refine Ops.alloc [isB false, SlM isU []] zero61 (fun _ _ => ⟨rfl, nilM _ _, trivial⟩) rfl fun b1 => ?_
  refine nl ?_
  refine At.thn (hK1 _ _ ?_); clear hK1
  refine Tri.seq fun K2 hK2 => ?_
  refine Tri.region ?_
  refine Ops.alloc [isB false, SlM isU []] zero61 (fun _ _ => ⟨rfl, nilM _ _, trivial⟩) rfl fun b2 => ?_
  refine nl ?_
  refine At.thn (hK2 _ _ ?_); clear hK2
  refine Tri.seq fun K3 hK3 => ?_
  refine Tri.seq fun K4 hK4 => ?_
  refine Tri.region ?_
  refine st (OK1.fieldAddrP (Has.t rfl) fld24_1 ty3 (Ss' := [_, _]) rfl) rfl ?_
  refine st (OK1.loadP1 (Has.t rfl) ty3) rfl ?_
  refine st (OK1.mv (Has.cI 0 rfl)) rfl ?_
  refine nl ?_
  refine At.thn (hK4 _ _ ?_); clear hK4
  refine Tri.block ?_
  refine Tri.loopF [0, 1, 2, 3, 6, 7, 10] (fun (z : { j : Nat // j ≤ C }) => match z with | ⟨j, hj⟩ => [(11, isI (j : Int))]) (fun M => fun (z : { j : Nat // j ≤ C }) => match z with | ⟨j, hj⟩ => [zM b2 (dotS f g j), (some b1, cellM [isB false, SlM isU []])]) (fun (z : { j : Nat // j ≤ C }) => match z with | ⟨j, hj⟩ => C - j) (⟨0, Nat.zero_le _⟩) (Cv.mem (.cons (t := 11) (Has.t' rfl ?_) (.cons (t := 0) (Has.t rfl) (.cons (t := 1) (Has.t rfl) (.cons (t := 2) (Has.t rfl) (.cons (t := 3) (Has.t rfl) (.cons (t := 6) (Has.t rfl) (.cons (t := 7) (Has.t rfl) (.cons (t := 10) (Has.t rfl) .nil)))))))) ?_) ?_
  · rfl
  · exact zM0
  rintro ⟨j, hj⟩ K5 hK5
  refine Tri.cv (Cv.wk (.cons (t := 11) (Has.t rfl) (.cons (t := 0) (Has.t rfl) (.cons (t := 1) (Has.t rfl) (.cons (t := 2) (Has.t rfl) (.cons (t := 3) (Has.t rfl) (.cons (t := 6) (Has.t rfl) (.cons (t := 7) (Has.t rfl) (.cons (t := 10) (Has.t rfl) .nil))))))))) ?_
  refine Tri.memEq (M' := [zM b2 (dotS f g j), (some b1, cellM [isB false, SlM isU []])]) rfl ?_
  have hds := dotS_nw (f := f) (g := g) (K := K) (L := L) (fun j => by rw [hf]; exact hx _) (fun j => by rw [hg]; exact hy _) j
  refine Tri.seq fun K6 hK6 => ?_
  refine Tri.region ?_
  refine st (OK1.ltI (Has.t rfl) (Has.t rfl)) rfl ?_
  refine nl ?_
  refine At.thn (hK6 _ _ ?_); clear hK6
  refine Tri.seq fun K7 hK7 => ?_
  refine Tri.cond (Has.t rfl) (fun hc1 => ?_) (fun hc1 => ?_)
  · have hc1 := BP.t hc1
    have hj2 : j < C := (by omega)
    have hp1 := place_lt hi hj2
    have hp2 := place_lt hj2 hk
    have hxr := hx.raw (i * C + j)
    have hyr := hy.raw (j * D + k)
    have hfj : f j = cf (vals xs) (i * C + j) := by rw [hf]
    have hgj : g j = cf (vals ys) (j * D + k) := by rw [hg]
    have hfk := hx (i * C + j)
    have hgk := hy (j * D + k)
    have hmm := nz_mul (f j) (g j)
    rw [← hfj] at hfk
    rw [← hgj] at hgk
    refine Tri.skip ?_
    refine At.thn (hK7 _ _ ?_); clear hK7
    refine Tri.seq fun K8 hK8 => ?_
    refine Tri.block ?_
    refine Tri.seq fun K9 hK9 => ?_
    refine Tri.region ?_
    refine st (OK1.mv (Has.t rfl)) rfl ?_
    refine st (OK1.as (Has.t rfl)) rfl ?_
    refine nl ?_
    refine At.thn (hK9 _ _ ?_); clear hK9
    refine Tri.dr ?_
    refine DrG.st (i := 0) [] rfl rfl rfl (by kernel_rfl) (OKG.o rfl (OK1.load (Has.t rfl) (i := 0) rfl ty61 rfl (Ss' := [_, _]) rfl)) ?_
    refine DrG.st (i := 1) [] rfl rfl rfl (by kernel_rfl) (OKG.o rfl (OK1.loadP (Has.t rfl) ty24 rfl (Ss' := [_, _, _]) rfl)) ?_
    refine DrG.st (i := 2) [] rfl rfl rfl (by kernel_rfl) (OKG.o rfl (OK1.mv (Has.t rfl))) ?_
    refine DrG.st (i := 3) [] rfl rfl rfl (by kernel_rfl) (OKG.o rfl (OK1.mv (Has.t rfl))) ?_
    refine DrG.st (i := 4) [15, 16, 17] rfl rfl rfl (by kernel_rfl) (OKG.o rfl (OK1.call (zmat_get (i := i) (k := j) hxm (by omega)) (.cons (Has.t rfl) (.cons (Has.t rfl) (.cons (Has.t rfl) .nil))))) ?_
    refine DrG.st (i := 5) [] rfl rfl rfl (by kernel_rfl) (OKG.o rfl (OK1.loadP (Has.t rfl) ty24 rfl (Ss' := [_, _, _]) rfl)) ?_
    refine DrG.st (i := 6) [] rfl rfl rfl (by kernel_rfl) (OKG.o rfl (OK1.mv (Has.t rfl))) ?_
    refine DrG.st (i := 7) [] rfl rfl rfl (by kernel_rfl) (OKG.o rfl (OK1.mv (Has.t rfl))) ?_
    refine DrG.st (i := 8) [19, 20, 21] rfl rfl rfl (by kernel_rfl) (OKG.o rfl (OK1.call (zmat_get (i := j) (k := k) hym (by omega)) (.cons (Has.t rfl) (.cons (Has.t rfl) (.cons (Has.t rfl) .nil))))) ?_
    refine DrG.st (i := 9) [18, 22] rfl rfl rfl (by kernel_rfl) (OKG.o rfl (OK1.eq (OK1.call (zint_Mul (by omega) (by omega)) (.cons (Has.t rfl) (.cons (Has.t rfl) .nil))) ((show isZ _ = isZ (f j * g j) from isZ_eq (by rw [hfj, hgj, cf_vals, cf_vals]))))) ?_
    refine DrG.fin (n := 10) mixed (by kernel_rfl) (by kernel_rfl) (by kernel_rfl) ?_
    refine Ops.cv (Cv.wk (.cons (t := 0) (Has.t rfl) (.cons (t := 1) (Has.t rfl) (.cons (t := 2) (Has.t rfl) (.cons (t := 3) (Has.t rfl) (.cons (t := 6) (Has.t rfl) (.cons (t := 7) (Has.t rfl) (.cons (t := 10) (Has.t rfl) (.cons (t := 11) (Has.t rfl) (.cons (t := 12) (Has.t rfl) (.cons (t := 13) (Has.t rfl) (.cons (t := 8) (Has.t rfl) (.cons (t := 14) (Has.t rfl) (.cons (t := 15) (Has.t rfl) (.cons (t := 16) (Has.t rfl) (.cons (t := 17) (Has.t rfl) (.cons (t := 18) (Has.t rfl) (.cons (t := 19) (Has.t rfl) (.cons (t := 20) (Has.t rfl) (.cons (t := 21) (Has.t rfl) (.cons (t := 22) (Has.t rfl) (.cons (t := 23) (Has.t rfl) .nil)))))))))))))))))))))) ?_
    refine st (OK1.eq (OK1.call (zint_Add (by rw [val_words]; omega) (by rw [val_words]; omega)) (.cons (Has.t rfl) (.cons (Has.t rfl) .nil))) ((show isZ _ = isZ (dotS f g j + f j * g j) from isZ_eq (by simp only [zv_nf])))) rfl ?_
    refine Ops.store (Has.t rfl) (Has.t rfl) (i := 0) rfl ty61 rfl rfl (Ss' := [_, _]) rfl (M' := [(some _, cellM [_, _]), _]) rfl ?_
    refine nl ?_
    refine At.bln ?_
    refine At.thn (hK8 _ _ ?_); clear hK8
    refine Tri.region ?_
    refine st (OK1.addI (Has.t rfl) (Has.cI 1 rfl) (by omega) (by omega)) rfl ?_
    refine st (OK1.mv (Has.t rfl)) rfl ?_
    refine nl ?_
    refine At.thn ?_
    refine hK5 (⟨j + 1, by omega⟩) _ _ ?_ (Cv.mem (.cons (t := 11) (Has.t' rfl ?_) (.cons (t := 0) (Has.t rfl) (.cons (t := 1) (Has.t rfl) (.cons (t := 2) (Has.t rfl) (.cons (t := 3) (Has.t rfl) (.cons (t := 6) (Has.t rfl) (.cons (t := 7) (Has.t rfl) (.cons (t := 10) (Has.t rfl) .nil)))))))) ?_)
    · show C - (j + 1) < C - j; omega
    · exact isI_eq (by omega)
    · rfl
  · have hc1 := BP.f hc1
    refine Tri.exit ?_
    refine At.the ?_
    refine At.the ?_
    refine At.blh ?_
    refine At.thn (hK3 _ _ ?_); clear hK3
    refine Tri.cv (Cv.wk (.cons (t := 6) (Has.t rfl) (.cons (t := 7) (Has.t rfl) .nil))) ?_
    refine Tri.seq fun K10 hK10 => ?_
    refine Tri.region ?_
    refine st (OK1.load (Has.t rfl) (i := 0) rfl ty61 rfl (Ss' := [_, _]) rfl) rfl ?_
    refine Ops.store (Has.t rfl) (Has.t rfl) (i := 1) rfl ty61 rfl rfl (Ss' := [_, _]) rfl (M' := [_, (some _, cellM [_, _])]) rfl ?_
    refine nl ?_
    refine At.thn (hK10 _ _ ?_); clear hK10
    refine Tri.ret ?_
    refine rt1 (.inl rfl) Tryz.results66 rfl (.cell rfl (i := 1) rfl ty61 rfl ?_ .nil)
    all_goals (exact isZ_eq (by rw [show j = C by omega]))
set_option maxHeartbeats 4000000 in
theorem zmat_Mul {R C D K L : Nat} {xs ys : List (Bool × List Nat)} (hx : Bd (vals xs) K) (hy : Bd (vals ys) L) (hK : K + L ≤ 400000000) (hR : R ≤ 64) (hC : C ≤ 64) (hD : D ≤ 64) (hxl : xs.length = R * C) (hyl : ys.length = C * D) : Ctr Tryz.prog 40 [isM (R : Int) (C : Int) xs, isM (C : Int) (D : Int) ys] (isTup [isMz R D (tab (R * D) D fun i k => dotS (fun j => cf (vals xs) (i * C + j)) (fun j => cf (vals ys) (j * D + k)) C), isI 0]) := by
  refine Ctr.intro Tryz.func40 rfl (by kernel_rfl) Tryz.ntmps40 rfl fun w0 F0 => ?_
  refine Tri.cv (Cv.wk (.cons (t := 0) (Has.t rfl) (.cons (t := 1) (Has.t rfl) .nil))) ?_
  have h1 := side_le hR hC
  have h2 := side_le hC hD
  have hf1 := formB_true hR hC hxl
  have hf2 := formB_true hC hD hyl
  refine Tri.seq fun K1 hK1 => ?_
  refine Tri.region ?_
  refine Ops.box (Has.t rfl) rfl fun b1 => ?_
  refine Ops.box (Has.t rfl) rfl fun b2 => ?_
  refine Ops.alloc [isI 0, isI 0, nilS] zero24 (fun _ _ => ⟨⟨rfl, by decide, by decide⟩, ⟨rfl, by decide, by decide⟩, rfl, trivial⟩) rfl fun b3 => ?_
  refine st (OK1.as (Has.cI 0 rfl)) rfl ?_
  refine nl ?_
  refine At.thn (hK1 _ _ ?_); clear hK1
  refine Tri.seq fun K2 hK2 => ?_
  refine Tri.seq fun K3 hK3 => ?_
  refine Tri.region ?_
  refine st (OK1.load (Has.t rfl) (i := 2) rfl ty24 rfl (Ss' := [_, _, _]) rfl) rfl ?_
  refine st (OK1.eq (OK1.call (zmat_Formed) (.cons (Has.t rfl) .nil)) ((show isB _ = isB true from isB_eq hf1))) rfl ?_
  refine st (OK1.not (Has.t rfl)) rfl ?_
  refine st (OK1.mv (Has.t rfl)) rfl ?_
  refine stF rfl rfl (fun hg => have hg' := BP.t hg; OK1.load (Has.t rfl) (i := 1) rfl ty24 rfl (Ss' := [_, _, _]) rfl) rfl ?_
  refine stF rfl rfl (fun hg => have hg' := BP.t hg; OK1.eq (OK1.call (zmat_Formed) (.cons (Has.g rfl hg) .nil)) ((show isB _ = isB true from isB_eq hf2))) rfl ?_
  refine stF rfl rfl (fun hg => have hg' := BP.t hg; OK1.not (Has.g rfl hg)) rfl ?_
  refine st (OK1.pickOr (Has.t rfl) (fun h => Has.g rfl (ng h))) rfl ?_
  refine st (OK1.mv (Has.t rfl)) rfl ?_
  refine stF rfl rfl (fun hg => have hg' := BP.t hg; OK1.fieldAddr (Has.t rfl) fld24_1 ty3) rfl ?_
  refine stF rfl rfl (fun hg => have hg' := BP.t hg; OK1.load1 (Has.g rfl hg) (i := 2) rfl ty3 rfl) rfl ?_
  refine stF rfl rfl (fun hg => have hg' := BP.t hg; OK1.fieldAddr (Has.t rfl) fld24_0 ty3) rfl ?_
  refine stF rfl rfl (fun hg => have hg' := BP.t hg; OK1.load1 (Has.g rfl hg) (i := 1) rfl ty3 rfl) rfl ?_
  refine stF rfl rfl (fun hg => have hg' := BP.t hg; OK1.neI (Has.g rfl hg) (Has.g rfl hg)) rfl ?_
  refine st (OK1.pickOr (Has.t rfl) (fun h => Has.g rfl (ng h))) rfl ?_
  refine nl ?_
  refine At.thn (hK3 _ _ ?_); clear hK3
  refine Tri.cv (Cv.wk (.cons (t := 2) (Has.t rfl) (.cons (t := 3) (Has.t rfl) (.cons (t := 4) (Has.t rfl) (.cons (t := 5) (Has.t rfl) (.cons (t := 20) (Has.t rfl) .nil)))))) ?_
  refine Tri.cond (Has.t rfl) (fun hc1 => ?_) (fun hc1 => ?_)
  · have hc1 := BP.t hc1
    simp at hc1
  · have hc1 := BP.f hc1
    refine Tri.skip ?_
    refine At.thn (hK2 _ _ ?_); clear hK2
    refine Tri.seq fun K4 hK4 => ?_
    refine Tri.region ?_
    refine st (OK1.fieldAddr (Has.t rfl) fld24_0 ty3) rfl ?_
    refine st (OK1.load1 (Has.t rfl) (i := 2) rfl ty3 rfl) rfl ?_
    refine st (OK1.fieldAddr (Has.t rfl) fld24_1 ty3) rfl ?_
    refine st (OK1.load1 (Has.t rfl) (i := 1) rfl ty3 rfl) rfl ?_
    refine Ops.cv (Cv.freezeBox (t := 2) (i := 2) rfl rfl rfl) ?_
    refine Ops.memEq (M' := [_, _]) rfl ?_
    refine Ops.cv (Cv.wk (.cons (t := 2) (Has.t rfl) (.cons (t := 3) (Has.t rfl) (.cons (t := 4) (Has.t rfl) (.cons (t := 5) (Has.t rfl) (.cons (t := 20) (Has.t rfl) (.cons (t := 23) (Has.t rfl) (.cons (t := 24) (Has.t rfl) (.cons (t := 25) (Has.t rfl) .nil))))))))) ?_
    refine Ops.cv (Cv.freezeBox (t := 3) (i := 1) rfl rfl rfl) ?_
    refine Ops.memEq (M' := [_]) rfl ?_
    refine Ops.cv (Cv.wk (.cons (t := 2) (Has.t rfl) (.cons (t := 3) (Has.t rfl) (.cons (t := 4) (Has.t rfl) (.cons (t := 5) (Has.t rfl) (.cons (t := 20) (Has.t rfl) (.cons (t := 23) (Has.t rfl) (.cons (t := 25) (Has.t rfl) .nil)))))))) ?_
    refine st (OK1.makeFn (ι := PI R D) (As := fun p => [isI (p.1.1 : Int), isI (p.1.2 : Int)]) (R := fun p => Flat (zc (nz (dotS (fun j => cf (vals xs) (p.1.1 * C + j)) (fun j => cf (vals ys) (j * D + p.1.2)) C)))) (fun p => zmat_Mul_1 hx hy hK hC hxl hyl (by omega) (by omega) p.2.1 p.2.2) .nil (.cons (Has.t rfl) (.cons (Has.t rfl) .nil))) rfl ?_
    refine st (OK1.call (zmat_made (f := fun i k => nz (dotS (fun j => cf (vals xs) (i * C + j)) (fun j => cf (vals ys) (j * D + k)) C)) hR hD (fun i k _ _ => by rw [val_words]; have := dotS_nw (f := fun j => cf (vals xs) (i * C + j)) (g := fun j => cf (vals ys) (j * D + k)) (fun j => hx _) (fun j => hy _) C; omega)) (.cons (Has.t rfl) (.cons (Has.t rfl) (.cons (Has.t rfl) .nil)))) rfl ?_
    refine Ops.store (Has.t rfl) (Has.t rfl) (i := 0) rfl ty24 rfl rfl (Ss' := [_, _, _]) rfl (M' := [(some _, cellM [_, _, _])]) rfl ?_
    refine st (OK1.as (Has.cI 0 rfl)) rfl ?_
    refine nl ?_
    refine At.thn (hK4 _ _ ?_); clear hK4
    refine Tri.cv (Cv.wk (.cons (t := 4) (Has.t rfl) (.cons (t := 5) (Has.t rfl) .nil))) ?_
    refine Tri.ret ?_
    refine rtN (.inl rfl) Tryz.results40 rfl rfl (.cell rfl (i := 0) rfl ty24 rfl ?_ (.tmp (Has.t' rfl ?_) .nil))
    · exact isMz_eq (by rw [zvz fun i k => dotS (fun j => cf (vals xs) (i * C + j)) (fun j => cf (vals ys) (j * D + k)) C])
    · rfl
end Go.Proofs.YtkgipdidomikbaaGreat
/- Hermite's form, as it is brought about step by step: what is so of it. No program here. -/
namespace Go.Hp
open Go.Dt Go.Hn Go.Pz Go.Nt Go.Mz
/-- the numbers of some rows -/
def E (rs : List (List Int)) : MatF := fun i k => cf (rs.getD i []) k
theorem E_set {rs : List (List Int)} {i : Nat} {x : List Int} (hi : i < rs.length) (j : Nat) : E (rs.set i x) j = if j = i then cf x else E rs j := by
  funext k
  unfold E
  by_cases e : j = i
  · subst e
    rw [if_pos rfl, List.getD, List.getElem?_set_self hi]; rfl
  · rw [if_neg e, List.getD, List.getElem?_set_ne (fun h => e h.symm)]; rfl
/-- what the numbers of rows that stay are -/
theorem E_same {rs rs' : List (List Int)} {i : Nat} (h : rs'[i]? = rs[i]?) : E rs' i = E rs i := by funext k; unfold E; rw [List.getD, List.getD, h]
/-! ### the form's shape -/
/-- what is so of the rows when the columns ahead of one are done -/
structure HI (R : Nat) (s : HS) (P : Nat → Nat) (c : Nat) : Prop where
  plt : ∀ i, i < s.top → P i < c
  pup : ∀ i j, i < j → j < s.top → P i < P j
  lead : ∀ i k, i < s.top → k < P i → E s.rows i k = 0
  pos : ∀ i, i < s.top → 0 < E s.rows i (P i)
  zero : ∀ i k, s.top ≤ i → i < R → k < c → E s.rows i k = 0
  red : ∀ i r, r < i → i < s.top → 0 ≤ E s.rows r (P i) ∧ E s.rows r (P i) < E s.rows i (P i)
/-- rows behind top, joined: they are 0 where all of them were, and in the column -/
theorem jns_zero {rs : List (List Int)} {t col W k : Nat} (hrow : ∀ r ∈ rs, r.length = W) (ht : t < rs.length) (h0 : ∀ i, t ≤ i → i < rs.length → E rs i k = 0) : ∀ n, t + 1 + n ≤ rs.length → ∀ i, t ≤ i → i < rs.length → E (jns rs t col n) i k = 0
  | 0, _ => h0
  | n + 1, hn => by
    have ih := jns_zero hrow ht (col := col) h0 n (by omega)
    have hl := jns_len rs t col n
    have hr := jns_row hrow ht (col := col) n
    intro i hi hiR
    show E (jn _ _ _ _) i k = 0
    unfold jn
    split
    · exact ih i hi hiR
    · have e1 : ((jns rs t col n).getD (t + 1 + n) []).length = ((jns rs t col n).getD t []).length := (all_getD hr (by omega)).trans (all_getD hr (by omega)).symm
      have z1 : cf ((jns rs t col n).getD t []) k = 0 := ih t (Nat.le_refl _) ht
      have z2 : cf ((jns rs t col n).getD (t + 1 + n) []) k = 0 := ih (t + 1 + n) (by omega) (by omega)
      rw [E_set (by rw [List.length_set]; omega), E_set (by omega)]
      split
      · rw [cf_mx2 e1, z1, z2]; omega
      · split
        · rw [cf_mx2 e1, z1, z2]; omega
        · exact ih i hi hiR
theorem jns_done {rs : List (List Int)} {t col W : Nat} (hrow : ∀ r ∈ rs, r.length = W) (ht : t < rs.length) : ∀ n, t + 1 + n ≤ rs.length → ∀ i, t < i → i < t + 1 + n → E (jns rs t col n) i col = 0
  | 0, _, i, h1, h2 => absurd h2 (by omega)
  | n + 1, hn, i, h1, h2 => by
    have ih := jns_done hrow ht (col := col) n (by omega)
    have hl := jns_len rs t col n
    have hr := jns_row hrow ht (col := col) n
    have e1 : ((jns rs t col n).getD (t + 1 + n) []).length = ((jns rs t col n).getD t []).length := (all_getD hr (by omega)).trans (all_getD hr (by omega)).symm
    show E (jn _ _ _ _) i col = 0
    unfold jn
    split
    · rename_i h0
      rcases Nat.lt_or_ge i (t + 1 + n) with h3 | h3
      · exact ih i h1 h3
      · rw [show i = t + 1 + n by omega]; exact (xgg_zero.1 h0).2
    · rename_i h0
      rw [E_set (by rw [List.length_set]; omega), E_set (by omega)]
      split
      · rw [cf_mx2 e1]
        obtain ⟨u, hu⟩ := xgg_left (cf ((jns rs t col n).getD t []) col) (cf ((jns rs t col n).getD (t + 1 + n) []) col)
        obtain ⟨v, hv⟩ := xgg_right (cf ((jns rs t col n).getD t []) col) (cf ((jns rs t col n).getD (t + 1 + n) []) col)
        generalize xgg (cf ((jns rs t col n).getD t []) col) (cf ((jns rs t col n).getD (t + 1 + n) []) col) = g at *
        generalize cf ((jns rs t col n).getD t []) col = a at *
        generalize cf ((jns rs t col n).getD (t + 1 + n) []) col = b at *
        subst hu; subst hv
        rw [Int.mul_tdiv_cancel_left _ h0, Int.mul_tdiv_cancel_left _ h0]
        grind
      · rename_i h3
        rw [if_neg (by omega)]
        exact ih i h1 (by omega)
theorem E_low {rs : List (List Int)} {t col n j : Nat} (hj : j < t) : E (jns rs t col n) j = E rs j := E_same (jns_off hj n)
theorem rds_at {rs : List (List Int)} {t col W : Nat} (hrow : ∀ r ∈ rs, r.length = W) (ht : t < rs.length) : ∀ n, n ≤ t → ∀ i k, E (rds rs t col n) i k = if i < n then E rs i k - (E rs i col / E rs t col) * E rs t k else E rs i k
  | 0, _, i, k => by rw [if_neg (by omega)]; rfl
  | n + 1, hn, i, k => by
    have ih := rds_at hrow ht (col := col) n (by omega)
    have hl := rds_len rs t col n
    have hr := rds_row hrow ht (col := col) n (by omega)
    show E (rd _ _ _ _) i k = _
    unfold rd
    rw [E_set (by omega)]
    have e1 : ∀ k, cf ((rds rs t col n).getD t []) k = E rs t k := fun k => (ih t k).trans (if_neg (by omega))
    have e2 : ∀ k, cf ((rds rs t col n).getD n []) k = E rs n k := fun k => (ih n k).trans (if_neg (by omega))
    split
    · rename_i h1
      subst h1
      rw [if_pos (by omega), cf_mx2 ((all_getD hr (by omega)).trans (all_getD hr (by omega)).symm), e1, e2, e1, e2]
      grind
    · rw [ih i k]
      by_cases h2 : i < n
      · rw [if_pos h2, if_pos (by omega)]
      · rw [if_neg h2, if_neg (by omega)]
theorem hsg_at {rs : List (List Int)} {t col : Nat} (ht : t < rs.length) (i k : Nat) : E (hsg rs t col) i k = if i = t ∧ E rs t col < 0 then -(E rs t k) else E rs i k := by
  unfold hsg
  have e : cf (rs.getD t []) col = E rs t col := rfl
  rw [e]
  split
  · rename_i h
    rw [E_set ht]
    split
    · rename_i h2
      rw [if_pos ⟨h2, h⟩, cf_mx2 rfl]
      show -1 * E rs t k + 0 * E rs t k = _
      omega
    · rename_i h2
      rw [if_neg fun h3 => h2 h3.1]
  · rename_i h
    rw [if_neg fun h3 => h h3.2]
theorem HI.step {R W : Nat} {s : HS} {P : Nat → Nat} {c : Nat} (h : HI R s P c) (hl : s.rows.length = R) (hr : ∀ r ∈ s.rows, r.length = W) (ht : s.top < R) : ∃ P', HI R (hcol s c) P' (c + 1) := by
  subst hl
  obtain ⟨A, hA⟩ : ∃ A, A = jns s.rows s.top c (s.rows.length - (s.top + 1)) := ⟨_, rfl⟩
  have hAl : A.length = s.rows.length := by rw [hA]; exact jns_len _ _ _ _
  have hAr : ∀ r ∈ A, r.length = W := by rw [hA]; exact jns_row hr ht _
  have hAlow : ∀ i, i < s.top → E A i = E s.rows i := fun i hi => by rw [hA]; exact E_low hi
  have hAz : ∀ i k, s.top ≤ i → i < s.rows.length → k < c → E A i k = 0 := fun i k h1 h2 h3 => by rw [hA]; exact jns_zero hr ht (fun j g1 g2 => h.zero j k g1 g2 h3) _ (by omega) i h1 h2
  have hAd : ∀ i, s.top < i → i < s.rows.length → E A i c = 0 := fun i h1 h2 => by rw [hA]; exact jns_done hr ht _ (by omega) i h1 (by omega)
  have he : hcol s c = if E A s.top c = 0 then ⟨A, s.top⟩ else ⟨rds (hsg A s.top c) s.top c s.top, s.top + 1⟩ := by rw [hA]; rfl
  rw [he]
  by_cases h0 : E A s.top c = 0
  · rw [if_pos h0]
    refine ⟨P, fun i hi => Nat.lt_succ_of_lt (h.plt i hi), h.pup, fun i k hi hk => ?_, fun i hi => ?_, fun i k h1 h2 h3 => ?_, fun i r h1 h2 => ?_⟩
    · show E A i k = 0; rw [hAlow i hi]; exact h.lead i k hi hk
    · show 0 < E A i (P i); rw [hAlow i hi]; exact h.pos i hi
    · show E A i k = 0
      rcases Nat.lt_or_ge k c with h4 | h4
      · exact hAz i k h1 h2 h4
      · obtain rfl : k = c := by omega
        rcases Nat.lt_or_ge s.top i with h5 | h5
        · exact hAd i h5 h2
        · have h6 : s.top ≤ i := h1
          rw [show i = s.top by omega]; exact h0
    · show 0 ≤ E A r (P i) ∧ E A r (P i) < E A i (P i)
      have h2' : i < s.top := h2
      rw [hAlow i h2, hAlow r (by omega)]; exact h.red i r h1 h2
  · rw [if_neg h0]
    obtain ⟨B, hB⟩ : ∃ B, B = hsg A s.top c := ⟨_, rfl⟩
    have hBat : ∀ i k, E B i k = if i = s.top ∧ E A s.top c < 0 then -(E A s.top k) else E A i k := by rw [hB]; exact hsg_at (by omega)
    have hBl : B.length = s.rows.length := by rw [hB, hsg_len, hAl]
    have hBr : ∀ r ∈ B, r.length = W := by rw [hB]; exact hsg_row hAr (by omega)
    have hBc : 0 < E B s.top c := by
      rw [hBat]
      by_cases h1 : E A s.top c < 0
      · rw [if_pos ⟨rfl, h1⟩]; omega
      · rw [if_neg fun h2 => h1 h2.2]; omega
    have hBlow : ∀ i k, i ≠ s.top → E B i k = E A i k := fun i k hi => by rw [hBat, if_neg fun h2 => hi h2.1]
    have hBz : ∀ k, k < c → E B s.top k = 0 := fun k hk => by
      rw [hBat]
      have := hAz s.top k (Nat.le_refl _) ht hk
      split <;> omega
    rw [← hB]
    have hDat := rds_at (col := c) hBr (show s.top < B.length by omega) s.top (Nat.le_refl _)
    obtain ⟨D, hD⟩ : ∃ D, D = rds B s.top c s.top := ⟨_, rfl⟩
    rw [← hD] at hDat ⊢
    have hDlow : ∀ i k, i < s.top → k < c → E D i k = E s.rows i k := fun i k hi hk => by
      rw [hDat, if_pos hi, hBz k hk, Int.mul_zero, Int.sub_zero, hBlow i k (by omega), hAlow i hi]
    refine ⟨fun i => if i = s.top then c else P i, fun i hi => ?_, fun i j h1 h2 => ?_, fun i k hi hk => ?_, fun i hi => ?_, fun i k h1 h2 h3 => ?_, fun i r h1 h2 => ?_⟩
    · have hi' : i < s.top + 1 := hi
      show (if i = s.top then c else P i) < c + 1
      split
      · omega
      · have := h.plt i (by omega); omega
    · have h2' : j < s.top + 1 := h2
      show (if i = s.top then c else P i) < if j = s.top then c else P j
      rw [if_neg (show ¬ i = s.top by omega)]
      split
      · exact h.plt i (by omega)
      · exact h.pup i j h1 (by omega)
    · have hi' : i < s.top + 1 := hi
      show E D i k = 0
      by_cases e : i = s.top
      · simp only [if_pos e] at hk
        subst e
        rw [hDat, if_neg (by omega)]; exact hBz k hk
      · simp only [if_neg e] at hk
        have := h.plt i (by omega)
        rw [hDlow i k (by omega) (by omega)]; exact h.lead i k (by omega) hk
    · have hi' : i < s.top + 1 := hi
      show 0 < E D i (if i = s.top then c else P i)
      by_cases e : i = s.top
      · rw [if_pos e, e, hDat, if_neg (by omega)]; exact hBc
      · rw [if_neg e, hDlow i _ (by omega) (h.plt i (by omega))]; exact h.pos i (by omega)
    · have h1' : s.top + 1 ≤ i := h1
      show E D i k = 0
      rw [hDat, if_neg (by omega), hBlow i k (by omega)]
      rcases Nat.lt_or_ge k c with h4 | h4
      · exact hAz i k (by omega) h2 h4
      · obtain rfl : k = c := by omega
        exact hAd i (by omega) h2
    · have h2' : i < s.top + 1 := h2
      show 0 ≤ E D r (if i = s.top then c else P i) ∧ E D r (if i = s.top then c else P i) < E D i (if i = s.top then c else P i)
      by_cases e : i = s.top
      · rw [if_pos e, e, hDat r, if_pos (by omega), hDat s.top, if_neg (by omega)]
        have e1 := Int.emod_nonneg (E B r c) (show E B s.top c ≠ 0 by omega)
        have e2 := Int.emod_lt_of_pos (E B r c) hBc
        have e3 := Int.emod_add_mul_ediv (E B r c) (E B s.top c)
        rw [Int.mul_comm] at e3
        omega
      · have := h.plt i (by omega)
        rw [if_neg e, hDlow i _ (by omega) this, hDlow r _ (by omega) this]
        exact h.red i r h1 (by omega)
theorem HI.start (R : Nat) (rows : List (List Int)) : HI R ⟨rows, 0⟩ (fun _ => 0) 0 where
  plt i h := absurd h (Nat.not_lt_zero _)
  pup i j _ h := absurd h (Nat.not_lt_zero _)
  lead i k h := absurd h (Nat.not_lt_zero _)
  pos i h := absurd h (Nat.not_lt_zero _)
  zero i k _ _ h := absurd h (Nat.not_lt_zero _)
  red i r _ h := absurd h (Nat.not_lt_zero _)
/-! ### all of it -/
/-- Hermite's form of a matrix, and what makes it -/
def hF (R C : Nat) (L : List Int) : MatF := fun i k => E (hrm R C L).rows i k
end Go.Hp
/- Hermite's form as a program hands it back: its lists. No program here. -/
namespace Go.Hp
open Go.Dt Go.Hn Go.Pz Go.Nt Go.Mz Go.En
def hL (R C : Nat) (L : List Int) : List Int := flatP 0 C (hrm R C L).rows
theorem place_of {R C j : Nat} (h : j < R * C) : ∃ i k, i < R ∧ k < C ∧ j = i * C + k := by
  have hC : 0 < C := by
    rcases Nat.eq_zero_or_pos C with h0 | h0
    · subst h0; rw [Nat.mul_zero] at h; omega
    · exact h0
  have h1 := Nat.div_add_mod j C
  rw [Nat.mul_comm] at h1
  exact ⟨j / C, j % C, Nat.div_lt_of_lt_mul (by rwa [Nat.mul_comm]), Nat.mod_lt _ hC, by omega⟩
end Go.Hp
/- Where the rows of a form begin; forms as lists. -/
namespace Go.Hp
open Go.Dt Go.Hn Go.Pz Go.Nt Go.Mz Go.En
theorem ext_cf {a b : List Int} (hl : a.length = b.length) (h : ∀ j, j < a.length → cf a j = cf b j) : a = b := by
  refine List.ext_getElem? fun j => ?_
  rcases Nat.lt_or_ge j a.length with h1 | h1
  · rw [getElem_cf h1, getElem_cf (by omega), h j h1]
  · rw [List.getElem?_eq_none h1, List.getElem?_eq_none (by omega)]
end Go.Hp
/- Contracts: the same matrices. -/
namespace Go.Proofs.YtkgipdidomikbaaGreat
open Go.En Go.RowKit
set_option linter.unusedVariables false
set_option maxRecDepth 10000
open Go.Nt
open Go.Pz
open Go.Mz
open Go.Hn
open Go.Hp
open Go.Dt
set_option maxHeartbeats 4000000 in
theorem zmat_alike {r c r2 c2 : Int} {xs ys : List (Bool × List Nat)} : Ctr Tryz.prog 70 [isM r c xs, isM r2 c2 ys] (isB (formB r c xs.length && formB r2 c2 ys.length && decide (r = r2) && decide (c = c2))) := by
  refine Ctr.intro Tryz.func70 rfl (by kernel_rfl) Tryz.ntmps70 rfl fun w0 F0 => ?_
  refine Tri.cv (Cv.wk (.cons (t := 0) (Has.t rfl) (.cons (t := 1) (Has.t rfl) .nil))) ?_
  refine Tri.seq fun K1 hK1 => ?_
  refine Tri.region ?_
  refine Ops.box (Has.t rfl) rfl fun b1 => ?_
  refine Ops.box (Has.t rfl) rfl fun b2 => ?_
  refine st (OK1.as (Has.cB false)) rfl ?_
  refine nl ?_
  refine At.thn (hK1 _ _ ?_); clear hK1
  refine Tri.seq fun K2 hK2 => ?_
  refine Tri.region ?_
  refine st (OK1.load (Has.t rfl) (i := 1) rfl ty24 rfl (Ss' := [_, _, _]) rfl) rfl ?_
  refine st (OK1.call (zmat_Formed) (.cons (Has.t rfl) .nil)) rfl ?_
  refine st (OK1.mv (Has.t rfl)) rfl ?_
  refine stT rfl rfl (fun hg => have hg' := BP.t hg; OK1.load (Has.t rfl) (i := 0) rfl ty24 rfl (Ss' := [_, _, _]) rfl) rfl ?_
  refine stT rfl rfl (fun hg => have hg' := BP.t hg; OK1.call (zmat_Formed) (.cons (Has.g rfl hg) .nil)) rfl ?_
  refine st (OK1.pickAnd (Has.t rfl) (fun h => Has.g rfl h)) rfl ?_
  refine st (OK1.mv (Has.t rfl)) rfl ?_
  refine stT rfl rfl (fun hg => have hg' := BP.t hg; OK1.fieldAddr (Has.t rfl) fld24_0 ty3) rfl ?_
  refine stT rfl rfl (fun hg => have hg' := BP.t hg; OK1.load1 (Has.g rfl hg) (i := 1) rfl ty3 rfl) rfl ?_
  refine stT rfl rfl (fun hg => have hg' := BP.t hg; OK1.fieldAddr (Has.t rfl) fld24_0 ty3) rfl ?_
  refine stT rfl rfl (fun hg => have hg' := BP.t hg; OK1.load1 (Has.g rfl hg) (i := 0) rfl ty3 rfl) rfl ?_
  refine stT rfl rfl (fun hg => have hg' := BP.t hg; OK1.eqI (Has.g rfl hg) (Has.g rfl hg)) rfl ?_
  refine st (OK1.pickAnd (Has.t rfl) (fun h => Has.g rfl h)) rfl ?_
  refine st (OK1.mv (Has.t rfl)) rfl ?_
  refine stT rfl rfl (fun hg => have hg' := BP.t hg; OK1.fieldAddr (Has.t rfl) fld24_1 ty3) rfl ?_
  refine stT rfl rfl (fun hg => have hg' := BP.t hg; OK1.load1 (Has.g rfl hg) (i := 1) rfl ty3 rfl) rfl ?_
  refine stT rfl rfl (fun hg => have hg' := BP.t hg; OK1.fieldAddr (Has.t rfl) fld24_1 ty3) rfl ?_
  refine stT rfl rfl (fun hg => have hg' := BP.t hg; OK1.load1 (Has.g rfl hg) (i := 0) rfl ty3 rfl) rfl ?_
  refine stT rfl rfl (fun hg => have hg' := BP.t hg; OK1.eqI (Has.g rfl hg) (Has.g rfl hg)) rfl ?_
  refine st (OK1.pickAnd (Has.t rfl) (fun h => Has.g rfl h)) rfl ?_
  refine st (OK1.as (Has.t rfl)) rfl ?_
  refine nl ?_
  refine At.thn (hK2 _ _ ?_); clear hK2
  refine Tri.cv (Cv.wk (.cons (t := 4) (Has.t rfl) .nil)) ?_
  refine Tri.ret ?_
  refine rt1 (.inl rfl) Tryz.results70 rfl (.tmp (Has.t' rfl ?_) .nil)
  all_goals (rfl)
end Go.Proofs.YtkgipdidomikbaaGreat
/- The multiples of a form's rows that make a row; lattices that are the same. No program here. -/
namespace Go.Hp
open Go.Dt Go.Hn Go.Pz Go.Nt Go.Mz Go.En
def rowL (C : Nat) (L : List Int) (i : Nat) : List Int := (List.range C).map fun k => cf L (i * C + k)
theorem rowL_len (C : Nat) (L : List Int) (i : Nat) : (rowL C L i).length = C := by unfold rowL; rw [List.length_map, List.length_range]
/-! ### rows within others -/
end Go.Hp
namespace Go.Hp
open Go.Dt Go.Hn Go.Pz Go.Nt Go.Mz Go.En
end Go.Hp
/- How far the numbers of Hermite's form grow: by the pivots that are found. No program here. -/
namespace Go.Hp
open Go.Dt Go.Hn Go.Pz Go.Nt Go.Mz Go.En
/-- a bound that grows with each pivot -/
def hq (R K : Nat) : Nat → Nat
  | 0 => K
  | t + 1 => hq R K t * (R + 1 - t)
/-- how many pivots there are -/
def hrk (R C : Nat) (L : List Int) : Nat := (hrm R C L).top
end Go.Hp
/- The rows that two matrices both have, as lists; what becomes noughts. No program here. -/
namespace Go.Hp
open Go.Dt Go.Hn Go.Pz Go.Nt Go.Mz Go.En
/-! ### multiples, columns -/
def sclL (R C : Nat) (c : Int) (L : List Int) : List Int := tab (R * C) C fun i k => cf L (i * C + k) * c
theorem sclL_len (R C : Nat) (c : Int) (L : List Int) : (sclL R C c L).length = R * C := tab_len _ _ _
theorem sclL_at {R C i k : Nat} {c : Int} {L : List Int} (hi : i < R) (hk : k < C) : mf C (sclL R C c L) i k = mf C L i k * c := cf_tab' _ hk (place_lt hi hk)
/-! ### meets -/
/-! ### sizes of small ones -/
/-! ### what becomes noughts -/
def zeroB (L : List Int) : Bool := decide (∀ j, j < L.length → cf L j = 0)
end Go.Hp
/- Faddeev's and Leverrier's steps: the characteristic polynomial from traces. No program here. -/
namespace Go.Ch
open Go.Dt Go.Pz Go.Nt Go.Mz Go.En Go.Hp
def oneL (n : Nat) : List Int := tab (n * n) n one
def prdL (n : Nat) (a b : List Int) : List Int := tab (n * n) n fun i k => dotS (fun j => cf a (i * n + j)) (fun j => cf b (j * n + k)) n
def sumL (n : Nat) (a b : List Int) : List Int := tab (n * n) n fun i k => cf a (i * n + k) + cf b (i * n + k)
def trcL (n : Nat) (a : List Int) : Nat → Int := fun k => sm k fun i => cf a (i * n + i)
theorem oneL_len (n : Nat) : (oneL n).length = n * n := tab_len _ _ _
theorem prdL_len (n : Nat) (a b : List Int) : (prdL n a b).length = n * n := tab_len _ _ _
theorem sumL_len (n : Nat) (a b : List Int) : (sumL n a b).length = n * n := tab_len _ _ _
theorem nw_01 (i j : Nat) : (List.length (words (one i j).natAbs)) ≤ 1 := by
  unfold one
  split
  · exact nw_small' (by decide)
  · rw [Int.natAbs_zero, words_zero]; exact Nat.zero_le _
theorem oneL_bd (n : Nat) : Bd (oneL n) 1 := Bd_tab fun i j => nw_01 i j
theorem prdL_bd {n K L : Nat} {a b : List Int} (ha : Bd a K) (hb : Bd b L) : Bd (prdL n a b) (K + L + n) := Bd_tab fun i k => dotS_nw (fun j => ha _) (fun j => hb _) n
theorem sumL_bd {n K : Nat} {a b : List Int} (ha : Bd a K) (hb : Bd b K) : Bd (sumL n a b) (K + 1) := Bd_tab fun i k => by
  have h1 := nz_add (cf a (i * n + k)) (cf b (i * n + k))
  have h2 := ha (i * n + k)
  have h3 := hb (i * n + k)
  omega
theorem oneL_at {n i k : Nat} (hi : i < n) (hk : k < n) : mf n (oneL n) i k = one i k := cf_tab' _ hk (place_lt hi hk)
theorem prdL_at {n i k : Nat} {a b : List Int} (hi : i < n) (hk : k < n) : mf n (prdL n a b) i k = sm n fun j => mf n a i j * mf n b j k := by
  show cf _ (i * n + k) = _
  unfold prdL
  rw [cf_tab' _ hk (place_lt hi hk), dotS_sm]; rfl
theorem sumL_at {n i k : Nat} {a b : List Int} (hi : i < n) (hk : k < n) : mf n (sumL n a b) i k = mf n a i k + mf n b i k := cf_tab' _ hk (place_lt hi hk)
theorem mat_ext {n : Nat} {a b : List Int} (ha : a.length = n * n) (hb : b.length = n * n) (h : ∀ i k, i < n → k < n → mf n a i k = mf n b i k) : a = b :=
  ext_cf (by rw [ha, hb]) fun j hj => by
    rw [ha] at hj
    obtain ⟨i, k, hi, hk, rfl⟩ := place_of hj
    exact h i k hi hk
/-! ### the steps -/
noncomputable def flM (n : Nat) (L : List Int) (k : Nat) : List Int := tab (n * n) n fun i j => ca n (mf n L) (n - k) i j
noncomputable def flC (n : Nat) (L : List Int) (k : Nat) : Int := cp n (mf n L) (n - k)
theorem flM_len (n : Nat) (L : List Int) (k : Nat) : (flM n L k).length = n * n := tab_len _ _ _
theorem flM_at {n i j : Nat} {L : List Int} {k : Nat} (hi : i < n) (hj : j < n) : mf n (flM n L k) i j = ca n (mf n L) (n - k) i j := cf_tab' _ hj (place_lt hi hj)
theorem fl_one {n : Nat} {L : List Int} (hn : 0 < n) : flM n L 1 = oneL n := mat_ext (flM_len _ _ _) (oneL_len n) fun i k hi hk => by
  rw [flM_at hi hk, oneL_at hi hk]
  have h := ca_rec (mf n L) (Nat.le_refl n) hi hk
  rw [if_neg (by omega), sm_zero fun j _ => by rw [ca_top (mf n L) j hk, Int.mul_zero], cp_top] at h
  unfold one
  omega
theorem fl_tr {n k : Nat} {L : List Int} (h1 : 1 ≤ k) (h2 : k ≤ n) : trcL n (prdL n L (flM n L k)) n = -((k : Int) * flC n L k) := by
  have h := ca_atr (n := n) (mf n L) (m := n - k) (by omega)
  rw [show n - (n - k) = k by omega] at h
  unfold flC
  rw [← h]
  exact sm_congr fun i hi => by
    show mf n (prdL n L (flM n L k)) i i = _
    rw [prdL_at hi hi]
    exact sm_congr fun j hj => by rw [flM_at hj hi]
theorem fl_next {n k : Nat} {L : List Int} (h1 : 1 ≤ k) (h2 : k < n) : sumL n (prdL n L (flM n L k)) (sclL n n (flC n L k) (oneL n)) = flM n L (k + 1) := mat_ext (sumL_len _ _ _) (flM_len _ _ _) fun i j hi hj => by
  rw [sumL_at hi hj, prdL_at hi hj, sclL_at hi hj, oneL_at hi hj, flM_at hi hj]
  have h := ca_rec (mf n L) (m := n - k) (by omega) hi hj
  rw [if_neg (by omega)] at h
  have e : (sm n fun r => mf n L i r * mf n (flM n L k) r j) = sm n fun r => mf n L i r * ca n (mf n L) (n - k) r j := sm_congr fun r hr => by rw [flM_at hr hj]
  rw [e, show n - (k + 1) = n - k - 1 by omega]
  unfold one flC
  by_cases g : i = j
  · rw [if_pos g] at h ⊢; omega
  · rw [if_neg g] at h ⊢; omega
/-! ### sizes -/
def flB (n K k : Nat) : Nat := 1 + (k - 1) * (K + 2 * n + 1)
theorem fl_cbd {n K k B : Nat} {L : List Int} (hb : Bd L K) (hm : Bd (flM n L k) B) (h1 : 1 ≤ k) (h2 : k ≤ n) : (List.length (words (flC n L k).natAbs)) ≤ K + B + 2 * n := by
  have ht := fl_tr (L := L) h1 h2
  have hs : (List.length (words (trcL n (prdL n L (flM n L k)) n).natAbs)) ≤ K + B + n + n := sm_nw (fun i => prdL_bd hb hm _) n
  rw [ht, Int.natAbs_neg, Int.natAbs_mul, Int.natAbs_natCast] at hs
  refine Nat.le_trans (nw_mono (Nat.le_mul_of_pos_left _ h1)) ?_
  omega
theorem fl_bd {n K : Nat} {L : List Int} (hb : Bd L K) : ∀ k, 1 ≤ k → k ≤ n → Bd (flM n L k) (flB n K k)
  | 0, h, _ => absurd h (by decide)
  | 1, _, h => by rw [fl_one h]; exact (oneL_bd n).mono (by unfold flB; omega)
  | k + 2, _, h => by
    have ih := fl_bd hb (k + 1) (Nat.succ_pos k) (Nat.le_of_succ_le h)
    have e := fl_next (n := n) (k := k + 1) (L := L) (Nat.succ_pos k) h
    show Bd (flM n L (k + 1 + 1)) _
    rw [← e]
    have hc := fl_cbd (n := n) (k := k + 1) hb ih (Nat.succ_pos k) (Nat.le_of_succ_le h)
    have hs : Bd (sclL n n (flC n L (k + 1)) (oneL n)) (K + flB n K (k + 1) + 2 * n) := Bd_tab fun i j => by
      rcases Nat.lt_or_ge (i * n + j) (n * n) with g | g
      · obtain ⟨i', j', hi, hj, e⟩ := place_of g
        rw [e, show cf (oneL n) (i' * n + j') = one i' j' from oneL_at hi hj]
        unfold one
        split
        · rw [Int.one_mul]; exact hc
        · rw [Int.zero_mul, Int.natAbs_zero, words_zero]; exact Nat.zero_le _
      · rw [cf_high (by rw [oneL_len]; exact g), Int.zero_mul, Int.natAbs_zero, words_zero]; exact Nat.zero_le _
    refine (sumL_bd ((prdL_bd hb ih).mono (show K + flB n K (k + 1) + n ≤ K + flB n K (k + 1) + 2 * n by omega)) hs).mono ?_
    have e2 : (k + 2 - 1) * (K + 2 * n + 1) = (k + 1 - 1) * (K + 2 * n + 1) + (K + 2 * n + 1) := by rw [show k + 2 - 1 = (k + 1 - 1) + 1 by omega, Nat.add_mul, Nat.one_mul]
    unfold flB
    rw [e2]
    omega
/-- the polynomial's numbers, from the power 0 on -/
noncomputable def chL (n : Nat) (L : List Int) : List Int := (List.range (n + 1)).map (cp n (mf n L))
theorem chL_len (n : Nat) (L : List Int) : (chL n L).length = n + 1 := by unfold chL; rw [List.length_map, List.length_range]
theorem chL_at {n i : Nat} {L : List Int} (h : i ≤ n) : cf (chL n L) i = cp n (mf n L) i := by unfold chL; rw [cf_tab, if_pos (by omega)]
theorem chL_bd {n K : Nat} {L : List Int} (hb : Bd L K) : Bd (chL n L) (K + flB n K n + 2 * n + 1) := fun i => by
  unfold chL
  rw [cf_tab]
  split
  · rename_i hi
    rcases Nat.lt_or_ge i n with g | g
    · have h := fl_cbd (n := n) (k := n - i) hb (fl_bd (n := n) hb (n - i) (by omega) (by omega)) (by omega) (by omega)
      unfold flC at h
      rw [show n - (n - i) = i by omega] at h
      refine Nat.le_trans h ?_
      have : flB n K (n - i) ≤ flB n K n := by unfold flB; exact Nat.add_le_add_left (Nat.mul_le_mul_right _ (by omega)) _
      omega
    · rw [show i = n by omega, cp_top]
      exact Nat.le_trans (nw_small' (by decide)) (by omega)
  · rw [Int.natAbs_zero, words_zero]; exact Nat.zero_le _
/-- the list as it is filled, from its end on -/
noncomputable def qF (n : Nat) (L : List Int) (k : Nat) : List (Bool × List Nat) := (List.range (n + 1)).map fun i => if n + 1 ≤ i + k then nz (cp n (mf n L) i) else (false, [])
theorem qF_len (n : Nat) (L : List Int) (k : Nat) : (qF n L k).length = n + 1 := by unfold qF; rw [List.length_map, List.length_range]
theorem qF_get {n i : Nat} (L : List Int) (k : Nat) (h : i < n + 1) : (qF n L k)[i]? = some (if n + 1 ≤ i + k then nz (cp n (mf n L) i) else (false, [])) := by
  unfold qF
  rw [List.getElem?_map, List.getElem?_range h]; rfl
theorem qF_ext {n : Nat} {a b : List (Bool × List Nat)} (ha : a.length = n + 1) (hb : b.length = n + 1) (h : ∀ i, i < n + 1 → a[i]? = b[i]?) : a = b := List.ext_getElem? fun i => by
  rcases Nat.lt_or_ge i (n + 1) with g | g
  · exact h i g
  · rw [List.getElem?_eq_none (by omega), List.getElem?_eq_none (by omega)]
theorem qF_set {n k : Nat} {L : List Int} (h : k ≤ n) : (qF n L k).set (n - k) (nz (cp n (mf n L) (n - k))) = qF n L (k + 1) :=
  qF_ext (by rw [List.length_set, qF_len]) (qF_len _ _ _) fun i hi => by
    rw [qF_get L (k + 1) hi]
    by_cases e : n - k = i
    · rw [← e, List.getElem?_set_self (by rw [qF_len]; omega), if_pos (by omega)]
    · rw [List.getElem?_set_ne e, qF_get L k hi]
      by_cases g : n + 1 ≤ i + k
      · rw [if_pos g, if_pos (by omega)]
      · rw [if_neg g, if_neg (by omega)]
theorem qF_zero (n : Nat) (L : List Int) : qF n L 0 = List.replicate (n + 1) (false, []) :=
  qF_ext (qF_len _ _ _) List.length_replicate fun i hi => by
    rw [qF_get L 0 hi, List.getElem?_replicate, if_pos hi, if_neg (by omega)]
theorem qF_one (n : Nat) (L : List Int) : (List.replicate (n + 1) ((false, []) : Bool × List Nat)).set n (nz 1) = qF n L 1 := by
  rw [← qF_zero n L]
  have := qF_set (n := n) (k := 0) (L := L) (Nat.zero_le _)
  rw [Nat.sub_zero, cp_top] at this
  exact this
theorem qF_done (n : Nat) (L : List Int) : qF n L (n + 1) = (chL n L).map nz := by
  unfold qF chL
  rw [List.map_map]
  exact List.map_congr_left fun i _ => if_pos (Nat.le_add_left _ _)
theorem chL_norm (n : Nat) (L : List Int) : pnorm (chL n L) = chL n L := by
  have h := take_norm (l := chL n L) (n := n + 1) (.inr (by rw [Nat.add_sub_cancel, chL_at (Nat.le_refl n), cp_top]; decide)) (fun i hi => cf_high (by rw [chL_len]; exact hi))
  rw [List.take_of_length_le (by rw [chL_len]; exact Nat.le_refl _)] at h
  exact h.symm
end Go.Ch
/- Powers of a matrix; values of polynomials at it; the characteristic one's is noughts. No program here. -/
namespace Go.Ch
open Go.Dt Go.Pz Go.Nt Go.Mz Go.En Go.Hp
/-! ### values -/
theorem scl_one_bd {n K : Nat} {c : Int} (h : (List.length (words c.natAbs)) ≤ K) : Bd (sclL n n c (oneL n)) K := Bd_tab fun i j => by
  rcases Nat.lt_or_ge (i * n + j) (n * n) with g | g
  · obtain ⟨i', j', hi, hj, e⟩ := place_of g
    rw [e, show cf (oneL n) (i' * n + j') = one i' j' from oneL_at hi hj]
    unfold one
    split
    · rw [Int.one_mul]; exact h
    · rw [Int.zero_mul, Int.natAbs_zero, words_zero]; exact Nat.zero_le _
  · rw [cf_high (by rw [oneL_len]; exact g), Int.zero_mul, Int.natAbs_zero, words_zero]; exact Nat.zero_le _
end Go.Ch
