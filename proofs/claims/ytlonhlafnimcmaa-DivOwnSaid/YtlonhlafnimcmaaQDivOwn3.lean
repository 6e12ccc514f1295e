/- The law DivOwn, as it is stated, of the given program, for every input; no condition. -/
import Derived.Test.YtlonhlafnimcmaaQDivOwn2
import Derived.Test.YtlonhlafnimcmaaRows
/- Contracts: words that are handed back to be written. -/
namespace Go.Proofs.Ytlonhlafnimcmaa
open Go.En Go.RowKit
set_option linter.unusedVariables false
set_option maxRecDepth 10000
open Go.Nt
theorem words_app {zs : List Nat} {k : Nat} (h : Ok zs) (hk : k ≤ zs.length) (h0 : ∀ i, k ≤ i → zs.getD i 0 = 0) (ht : k = 0 ∨ zs.getD (k - 1) 0 ≠ 0) : k = (List.length (words (val zs))) := by
  have := congrArg List.length (words_of_take h hk h0 ht)
  rw [List.length_take] at this; omega
theorem ok_zero : ∀ {zs : List Nat}, Ok zs → ∃ k, k ≤ zs.length ∧ (∀ i, k ≤ i → zs.getD i 0 = 0) ∧ (k = 0 ∨ zs.getD (k - 1) 0 ≠ 0) := by
  intro zs _
  have : ∀ n, (∀ i, n ≤ i → zs.getD i 0 = 0) → n ≤ zs.length → ∃ k, k ≤ zs.length ∧ (∀ i, k ≤ i → zs.getD i 0 = 0) ∧ (k = 0 ∨ zs.getD (k - 1) 0 ≠ 0) := by
    intro n
    induction n with
    | zero => intro h hn; exact ⟨0, hn, h, .inl rfl⟩
    | succ n ih =>
      intro h hn
      by_cases hz : zs.getD n 0 = 0
      · exact ih (fun i hi => by rcases Nat.eq_or_lt_of_le hi with e | e; exact e ▸ hz; exact h i e) (by omega)
      · exact ⟨n + 1, hn, h, .inr hz⟩
  exact this zs.length (fun i hi => by simp [List.getD, List.getElem?_eq_none hi]) (Nat.le_refl _)
theorem words_drop {zs : List Nat} (h : Ok zs) : words (val zs) ++ zs.drop ((List.length (words (val zs)))) = zs := by
  obtain ⟨k, h1, h2, h3⟩ := ok_zero h
  rw [← words_app h h1 h2 h3, ← words_of_take h h1 h2 h3, List.take_append_drop]
set_option maxHeartbeats 4000000 in
theorem nat_trimG {zs : List Nat} {b c : Nat} (hz : Ok zs) (h0 : 0 < zs.length) : CtrX Try.prog 18 [isWin b 0 zs.length c] ([(some b, cellM (List.map isU zs))]) (fun S M => S = isWin b 0 ((List.length (words (val zs)))) c ∧ M = [(some b, cellM (List.map isU zs))]) := by
  refine CtrX.intro Try.func18 rfl (by kernel_rfl) Try.ntmps18 rfl fun w0 F0 => ?_
  refine Tri.cv (Cv.wk (.cons (t := 0) (Has.t rfl) .nil)) ?_
  refine Tri.fact (Has.lenLt (Has.t (t := 0) rfl)) fun lt0 => ?_
  refine Tri.fact (Has.winLe (Has.t (t := 0) rfl)) fun lw0 => ?_
  refine Tri.seq fun K1 hK1 => ?_
  refine Tri.region ?_
  refine st (OK1.as (Has.cW (f := isU))) rfl ?_
  refine nl ?_
  refine At.thn (hK1 _ _ ?_); clear hK1
  refine Tri.seq fun K2 hK2 => ?_
  refine Tri.region ?_
  refine st (OK1.mv (Has.t rfl)) rfl ?_
  refine st (OK1.len sl23 (Has.t rfl)) rfl ?_
  refine st (OK1.as (Has.t rfl)) rfl ?_
  refine nl ?_
  refine At.thn (hK2 _ _ ?_); clear hK2
  refine Tri.seq fun K3 hK3 => ?_
  refine Tri.block ?_
  refine Tri.loopF [0, 2] (fun (z : { k : Nat // k ≤ zs.length ∧ ∀ i, k ≤ i → zs.getD i 0 = 0 }) => match z with | ⟨k, hI⟩ => [(3, isI (k : Int))]) (fun M => fun (z : { k : Nat // k ≤ zs.length ∧ ∀ i, k ≤ i → zs.getD i 0 = 0 }) => match z with | ⟨k, hI⟩ => M) (fun (z : { k : Nat // k ≤ zs.length ∧ ∀ i, k ≤ i → zs.getD i 0 = 0 }) => match z with | ⟨k, hI⟩ => k) (⟨zs.length, Nat.le_refl _, fun i hi => by simp [List.getD, List.getElem?_eq_none hi]⟩) (Cv.mem (.cons (t := 3) (Has.t' rfl ?_) (.cons (t := 0) (Has.t rfl) (.cons (t := 2) (Has.t rfl) .nil))) ?_) ?_
  · rfl
  · rfl
  rintro ⟨k, hk, hz0⟩ K4 hK4
  refine Tri.cv (Cv.wk (.cons (t := 3) (Has.t rfl) (.cons (t := 0) (Has.t rfl) (.cons (t := 2) (Has.t rfl) .nil)))) ?_
  have ek : ((k : Int) - 1).toNat = k - 1 := by omega
  refine Tri.seq fun K5 hK5 => ?_
  refine Tri.seq fun K6 hK6 => ?_
  refine Tri.region ?_
  refine st (OK1.mv (Has.t rfl)) rfl ?_
  refine st (OK1.gtI (Has.t rfl) (Has.cI 0 rfl)) rfl ?_
  refine st (OK1.mv (Has.t rfl)) rfl ?_
  refine stT rfl rfl (fun hg => have hg' := BP.t hg; OK1.mv (Has.t rfl)) rfl ?_
  refine stT rfl rfl (fun hg => have hg' := BP.t hg; OK1.mv (Has.t rfl)) rfl ?_
  refine stT rfl rfl (fun hg => have hg' := BP.t hg; OK1.subI (Has.g rfl hg) (Has.cI 1 rfl) (by first | omega | assumption) (by first | omega | assumption)) rfl ?_
  refine stT rfl rfl (fun hg => have hg' := BP.t hg; OK1.eq (OK1.ixWin sl23 ty28 (Has.g rfl hg) (Has.g rfl hg) ⟨by omega, by omega⟩) (isPtr_eq (by first | exact ixo0 | exact ixo2 | exact ixo1))) rfl ?_
  refine stT rfl rfl (fun hg => have hg' := BP.t hg; OK1.load1 (Has.g rfl hg) (i := 0) rfl ty28 (map_some (getD_some (d := 0) (by omega)))) rfl ?_
  refine stT rfl rfl (fun hg => have hg' := BP.t hg; OK1.eqU (Has.g rfl hg) (Has.cU 0 rfl)) rfl ?_
  refine st (OK1.pickAnd (Has.t rfl) (fun h => Has.g rfl h)) rfl ?_
  refine nl ?_
  refine At.thn (hK6 _ _ ?_); clear hK6
  refine Tri.cond (Has.t rfl) (fun hc1 => ?_) (fun hc1 => ?_)
  · have hc1 := BP.t hc1
    refine Tri.skip ?_
    refine At.thn (hK5 _ _ ?_); clear hK5
    refine Tri.block ?_
    refine Tri.region ?_
    refine st (OK1.mv (Has.t rfl)) rfl ?_
    refine st (OK1.subI (Has.t rfl) (Has.cI 1 rfl) (by first | omega | assumption) (by first | omega | assumption)) rfl ?_
    refine st (OK1.as (Has.t rfl)) rfl ?_
    refine nl ?_
    refine At.bln ?_
    refine At.thn ?_
    refine hK4 (⟨k - 1, by omega, fun i hi => by rcases Nat.lt_or_ge i k with h | h; (have e : i = k - 1 := by omega); (rw [e, ← ek]; exact hc1.2); exact hz0 i h⟩) _ _ ?_ (Cv.mem (.cons (t := 3) (Has.t' rfl ?_) (.cons (t := 0) (Has.t rfl) (.cons (t := 2) (Has.t rfl) .nil))) ?_)
    · show k - 1 < k; omega
    · exact isI_eq (by omega)
    · rfl
  · have hc1 := BP.f hc1
    refine Tri.exit ?_
    refine At.the ?_
    refine At.the ?_
    refine At.blh ?_
    refine At.thn (hK3 _ _ ?_); clear hK3
    refine Tri.cv (Cv.wk (.cons (t := 0) (Has.t rfl) (.cons (t := 2) (Has.t rfl) (.cons (t := 3) (Has.t rfl) .nil)))) ?_
    refine Tri.seq fun K7 hK7 => ?_
    refine Tri.region ?_
    refine st (OK1.mv (Has.t rfl)) rfl ?_
    refine st (OK1.mv (Has.t rfl)) rfl ?_
    refine st (OK1.slHWin sl23 ty28 (Has.t rfl) (Has.t rfl) ⟨by omega, by omega, by omega⟩) rfl ?_
    refine st (OK1.as (Has.t rfl)) rfl ?_
    refine nl ?_
    refine At.thn (hK7 _ _ ?_); clear hK7
    refine Tri.cv (Cv.wk (.cons (t := 2) (Has.t rfl) .nil)) ?_
    refine Tri.ret ?_
    refine rtX1 (.inl rfl) Try.results18 rfl (.tmp (Has.t rfl) .nil) ?_
    exact ⟨isWin_eq rfl (words_app hz hk hz0 (by rcases hc1 with h | h; left; omega; right; rwa [ek] at h)) rfl, rfl⟩
set_option maxHeartbeats 4000000 in
theorem nat_normalG {zs : List Nat} {b c n : Nat} (hz : Ok zs) (h0 : 0 < zs.length) (hn : n = zs.length) : CtrX Try.prog 19 [isWin b 0 n c] ([(some b, cellM (List.map isU zs))]) (fun S M => ∃ g : Gr Nat, S = isOwn g ((List.length (words (val zs)))) ∧ M = [grM isU g (words (val zs))]) := by
  subst hn
  refine CtrX.intro Try.func19 rfl (by kernel_rfl) Try.ntmps19 rfl fun w0 F0 => ?_
  refine Tri.cv (Cv.wk (.cons (t := 0) (Has.t rfl) .nil)) ?_
  refine Tri.fact (Has.lenLt (Has.t (t := 0) rfl)) fun lt0 => ?_
  refine Tri.fact (Has.winLe (Has.t (t := 0) rfl)) fun lw0 => ?_
  refine Tri.seq fun K1 hK1 => ?_
  refine Tri.region ?_
  refine st (OK1.as (Has.cW (f := isU))) rfl ?_
  refine nl ?_
  refine At.thn (hK1 _ _ ?_); clear hK1
  refine Tri.seq fun K2 hK2 => ?_
  refine Tri.region ?_
  refine st (OK1.mv (Has.t rfl)) rfl ?_
  refine Ops.callX (nat_trimG hz h0) (List.Perm.refl _) (.cons (Has.t rfl) .nil) rfl ?_
  rintro _ _ ⟨rfl, rfl⟩
  refine st (OK1.as (Has.t rfl)) rfl ?_
  refine nl ?_
  refine At.thn (hK2 _ _ ?_); clear hK2
  refine Tri.seq fun K3 hK3 => ?_
  refine Tri.seq fun K4 hK4 => ?_
  refine Tri.region ?_
  refine st (OK1.mv (Has.t rfl)) rfl ?_
  refine st (OK1.len sl23 (Has.t rfl)) rfl ?_
  refine st (OK1.eqI (Has.t rfl) (Has.cI 0 rfl)) rfl ?_
  refine nl ?_
  refine At.thn (hK4 _ _ ?_); clear hK4
  refine Tri.cond (Has.t rfl) (fun hc1 => ?_) (fun hc1 => ?_)
  · have hc1 := BP.t hc1
    refine Tri.seq fun K5 hK5 => ?_
    refine Tri.region ?_
    refine Ops.cv (Cv.trans (Cv.drop (.cons _ .slnil)) (Cv.grow0 isU)) ?_
    refine st (OK1.as (Has.onNil (α := Nat) Has.cS)) rfl ?_
    refine nl ?_
    refine At.thn (hK5 _ _ ?_); clear hK5
    refine Tri.cv (Cv.wk (.cons (t := 0) (Has.t rfl) (.cons (t := 2) (Has.t rfl) .nil))) ?_
    refine Tri.ret ?_
    refine At.thr ?_
    refine rtX1 (.inl rfl) Try.results19 rfl (.tmp (Has.t rfl) .nil) ?_
    exact ⟨Gr.nil, by rw [show (List.length (words (val zs))) = 0 by omega], by rw [List.eq_nil_of_length_eq_zero (show (words (val zs)).length = 0 by omega)]⟩
  · have hc1 := BP.f hc1
    refine Tri.skip ?_
    refine At.thn (hK3 _ _ ?_); clear hK3
    refine Tri.cv (Cv.wk (.cons (t := 0) (Has.t rfl) (.cons (t := 2) (Has.t rfl) .nil))) ?_
    refine Tri.seq fun K6 hK6 => ?_
    refine Tri.region ?_
    refine st (OK1.mv (Has.t rfl)) rfl ?_
    refine st (OK1.as (Has.onWin (zs.drop ((List.length (words (val zs))))) (Has.t rfl))) rfl ?_
    refine nl ?_
    refine At.thn (hK6 _ _ ?_); clear hK6
    refine Tri.ret ?_
    refine rtX1 (.inl rfl) Try.results19 rfl (.tmp (Has.t rfl) .nil) ?_
    exact ⟨⟨some b, c, zs.drop ((List.length (words (val zs))))⟩, rfl, by unfold grM; rw [words_drop hz]; rfl⟩
set_option maxHeartbeats 4000000 in
theorem nat_normal0  : Ctr Try.prog 19 [isWords []] (nilS) := by
  refine Ctr.intro Try.func19 rfl (by kernel_rfl) Try.ntmps19 rfl fun w0 F0 => ?_
  refine Tri.cv (Cv.wk (.cons (t := 0) (Has.t rfl) .nil)) ?_
  refine Tri.fact (Has.lenLt (Has.t (t := 0) rfl)) fun lt0 => ?_
  refine Tri.fact (Has.okW (Has.t (t := 0) rfl)) fun ok0 => ?_
  refine Tri.seq fun K1 hK1 => ?_
  refine Tri.region ?_
  refine st (OK1.as (Has.cW (f := isU))) rfl ?_
  refine nl ?_
  refine At.thn (hK1 _ _ ?_); clear hK1
  refine Tri.seq fun K2 hK2 => ?_
  refine Tri.region ?_
  refine st (OK1.mv (Has.t rfl)) rfl ?_
  refine st (OK1.call (nat_trim) (.cons (Has.t rfl) .nil)) rfl ?_
  refine st (OK1.as (Has.t rfl)) rfl ?_
  refine nl ?_
  refine At.thn (hK2 _ _ ?_); clear hK2
  refine Tri.seq fun K3 hK3 => ?_
  refine Tri.seq fun K4 hK4 => ?_
  refine Tri.region ?_
  refine st (OK1.mv (Has.t rfl)) rfl ?_
  refine st (OK1.len sl23 (Has.t rfl)) rfl ?_
  refine st (OK1.eqI (Has.t rfl) (Has.cI 0 rfl)) rfl ?_
  refine nl ?_
  refine At.thn (hK4 _ _ ?_); clear hK4
  refine Tri.cond (Has.t rfl) (fun hc1 => ?_) (fun hc1 => ?_)
  · have hc1 := BP.t hc1
    skip
    refine Tri.seq fun K5 hK5 => ?_
    refine Tri.region ?_
    refine st (OK1.as Has.cS) rfl ?_
    refine nl ?_
    refine At.thn (hK5 _ _ ?_); clear hK5
    refine Tri.cv (Cv.wk (.cons (t := 0) (Has.t rfl) (.cons (t := 2) (Has.t rfl) .nil))) ?_
    refine Tri.ret ?_
    refine At.thr ?_
    refine rt1 (.inl rfl) Try.results19 rfl (.tmp (Has.t' rfl ?_) .nil)
    all_goals (rfl)
  · have hc1 := BP.f hc1
    exact absurd (show ((words (val [])).length : Int) = 0 from by rw [show val [] = 0 from rfl, words_zero]; rfl) hc1
set_option maxHeartbeats 4000000 in
theorem nat_NormX {xs : List Nat} (hx : (List.length (words (val xs))) ≤ 4294967296) : CtrX Try.prog 11 [isWords xs] ([]) (fun S M => ∃ g : Gr Nat, S = isOwn g ((List.length (words (val xs)))) ∧ M = [grM isU g (words (val xs))]) := by
  refine CtrX.intro Try.func11 rfl (by kernel_rfl) Try.ntmps11 rfl fun w0 F0 => ?_
  refine Tri.cv (Cv.wk (.cons (t := 0) (Has.t rfl) .nil)) ?_
  refine Tri.fact (Has.lenLt (Has.t (t := 0) rfl)) fun lt0 => ?_
  refine Tri.fact (Has.okW (Has.t (t := 0) rfl)) fun ok0 => ?_
  refine Tri.seq fun K1 hK1 => ?_
  refine Tri.region ?_
  refine st (OK1.as Has.cS) rfl ?_
  refine nl ?_
  refine At.thn (hK1 _ _ ?_); clear hK1
  refine Tri.seq fun K2 hK2 => ?_
  refine Tri.region ?_
  refine st (OK1.mv (Has.t rfl)) rfl ?_
  refine st (OK1.call (nat_trim) (.cons (Has.t rfl) .nil)) rfl ?_
  refine Ops.callO (clone_NatO hx) (.cons (Has.t rfl) .nil) rfl (fun hO1 => ?_) (fun hO1 b1 cb1 jb1 => ?_)
  · skip
    refine st (OK1.call nat_normal0 (.cons (Has.t rfl) .nil)) rfl ?_
    refine Ops.cv (Cv.grow0 isU) ?_
    refine st (OK1.as (Has.onNil (α := Nat) (Has.t rfl))) rfl ?_
    refine nl ?_
    refine At.thn (hK2 _ _ ?_); clear hK2
    refine Tri.cv (Cv.wk (.cons (t := 2) (Has.t rfl) .nil)) ?_
    refine Tri.ret ?_
    refine rtX1 (.inl rfl) Try.results11 rfl (.tmp (Has.t rfl) .nil) ?_
    exact ⟨Gr.nil, by rw [show words (val xs) = [] from hO1] <;> rfl, by rw [hO1]⟩
  · skip
    refine Ops.callM (nat_normalW (words_ne hO1)) (i := 0) rfl (.cons (Has.t rfl) .nil) rfl (M' := [(_, _)]) rfl ?_
    refine st (OK1.as (Has.onWin (List.replicate jb1 0) (Has.t rfl))) rfl ?_
    refine nl ?_
    refine At.thn (hK2 _ _ ?_); clear hK2
    refine Tri.cv (Cv.wk (.cons (t := 2) (Has.t rfl) .nil)) ?_
    refine Tri.ret ?_
    refine rtX1 (.inl rfl) Try.results11 rfl (.tmp (Has.t rfl) .nil) ?_
    exact ⟨⟨some b1, cb1, List.replicate jb1 0⟩, rfl, rfl⟩
set_option maxHeartbeats 4000000 in
theorem nat_OfX {x : Nat} : CtrX Try.prog 9 [isU x] ([]) (fun S M => ∃ g : Gr Nat, S = isOwn g ((List.length (words (x)))) ∧ M = [grM isU g (words (x))]) := by
  refine CtrX.intro Try.func9 rfl (by kernel_rfl) Try.ntmps9 rfl fun w0 F0 => ?_
  refine Tri.cv (Cv.wk (.cons (t := 0) (Has.t rfl) .nil)) ?_
  refine Tri.fact (Has.ltU (Has.t (t := 0) rfl)) fun lt0 => ?_
  refine Tri.seq fun K1 hK1 => ?_
  refine Tri.region ?_
  refine st (OK1.as (Has.cW (f := isU))) rfl ?_
  refine nl ?_
  refine At.thn (hK1 _ _ ?_); clear hK1
  refine Tri.seq fun K2 hK2 => ?_
  refine Tri.seq fun K3 hK3 => ?_
  refine Tri.region ?_
  refine st (OK1.mv (Has.t rfl)) rfl ?_
  refine st (OK1.eqU (Has.t rfl) (Has.cU 0 rfl)) rfl ?_
  refine nl ?_
  refine At.thn (hK3 _ _ ?_); clear hK3
  refine Tri.cond (Has.t rfl) (fun hc1 => ?_) (fun hc1 => ?_)
  · have hc1 := BP.t hc1
    refine Tri.seq fun K4 hK4 => ?_
    refine Tri.region ?_
    refine Ops.cv (Cv.grow0 isU) ?_
    refine st (OK1.as (Has.onNil (α := Nat) Has.cS)) rfl ?_
    refine nl ?_
    refine At.thn (hK4 _ _ ?_); clear hK4
    refine Tri.ret ?_
    refine At.thr ?_
    refine rtX1 (.inl rfl) Try.results9 rfl (.tmp (Has.t rfl) .nil) ?_
    exact ⟨Gr.nil, by rw [hc1, words_zero] <;> rfl, by rw [hc1, words_zero]⟩
  · have hc1 := BP.f hc1
    refine Tri.skip ?_
    refine At.thn (hK2 _ _ ?_); clear hK2
    refine Tri.seq fun K5 hK5 => ?_
    refine Tri.region ?_
    refine st (OK1.mv (Has.t rfl)) rfl ?_
    refine Ops.buildGK (fk := fun a => [isU a]) (xs := [x]) [isU 0] sl23 ty28 zero28 (fun _ _ => ⟨⟨rfl, by decide⟩, trivial⟩) rfl rfl (.cons (Has.t rfl) rfl rfl rfl .nil) rfl rfl rfl rfl fun b1 => ?_
    refine Ops.memEq (M' := [grM isU ⟨some b1, 1, []⟩ [x]]) rfl ?_
    refine st (OK1.as (Has.onGr (Has.t rfl))) rfl ?_
    refine nl ?_
    refine At.thn (hK5 _ _ ?_); clear hK5
    refine Tri.cv (Cv.wk (.cons (t := 2) (Has.t rfl) .nil)) ?_
    refine Tri.ret ?_
    refine rtX1 (.inl rfl) Try.results9 rfl (.tmp (Has.t rfl) .nil) ?_
    exact ⟨⟨some b1, 1, []⟩, by rw [words_small lt0, if_neg (by omega)] <;> rfl, by rw [words_small lt0, if_neg (by omega)]⟩
set_option maxHeartbeats 4000000 in
theorem nat_ShrX {xs : List Nat} {k : Nat} (hk : k < 9223372036854775808) (hx : (List.length (words (val xs))) < 4294900000) : CtrX Try.prog 15 [isWords xs, isI (k : Int)] ([]) (fun S M => ∃ g : Gr Nat, S = isTup [isOwn g ((List.length (words (val xs / 2 ^ k)))), isB true] ∧ M = [grM isU g (words (val xs / 2 ^ k))]) := by
  refine CtrX.intro Try.func15 rfl (by kernel_rfl) Try.ntmps15 rfl fun w0 F0 => ?_
  refine Tri.cv (Cv.wk (.cons (t := 0) (Has.t rfl) (.cons (t := 1) (Has.t rfl) .nil))) ?_
  refine Tri.fact (Has.lenLt (Has.t (t := 0) rfl)) fun lt0 => ?_
  refine Tri.fact (Has.okW (Has.t (t := 0) rfl)) fun ok0 => ?_
  refine Tri.fact (Has.rngI (Has.t (t := 1) rfl)) fun lt1 => ?_
  have e1 : ((k : Int) / 64) = ((k / 64 : Nat) : Int) := by omega
  have e2 : ((k : Int) % 64).toNat = k % 64 := by omega
  have nX := nw_div (val xs) (k / 64)
  refine Tri.seq fun K1 hK1 => ?_
  refine Tri.region ?_
  refine st (OK1.as (Has.cW (f := isU))) rfl ?_
  refine st (OK1.as (Has.cB false)) rfl ?_
  refine nl ?_
  refine At.thn (hK1 _ _ ?_); clear hK1
  refine Tri.seq fun K2 hK2 => ?_
  refine Tri.seq fun K3 hK3 => ?_
  refine Tri.region ?_
  refine st (OK1.mv (Has.t rfl)) rfl ?_
  refine st (OK1.ltI (Has.t rfl) (Has.cI 0 rfl)) rfl ?_
  refine nl ?_
  refine At.thn (hK3 _ _ ?_); clear hK3
  refine Tri.cond (Has.t rfl) (fun hc1 => ?_) (fun hc1 => ?_)
  · have hc1 := BP.t hc1
    exfalso; first | omega | contradiction | (revert hc1; simp)
  · have hc1 := BP.f hc1
    refine Tri.skip ?_
    refine At.thn (hK2 _ _ ?_); clear hK2
    refine Tri.seq fun K4 hK4 => ?_
    refine Tri.region ?_
    refine st (OK1.mv (Has.t rfl)) rfl ?_
    refine st (OK1.call (nat_trim) (.cons (Has.t rfl) .nil)) rfl ?_
    refine st (OK1.as (Has.t rfl)) rfl ?_
    refine nl ?_
    refine At.thn (hK4 _ _ ?_); clear hK4
    refine Tri.seq fun K5 hK5 => ?_
    refine Tri.region ?_
    refine st (OK1.mv (Has.t rfl)) rfl ?_
    refine st (OK1.eq (OK1.quoI (Has.t rfl) (Has.cI 64 rfl) (by first | omega | assumption | exact True.intro | exact dig_lt _ _ | exact car_le _ _ _ | exact bor_le _ _ _) (by first | omega | assumption | exact True.intro | exact dig_lt _ _ | exact car_le _ _ _ | exact bor_le _ _ _) (by first | omega | assumption | exact True.intro | exact dig_lt _ _ | exact car_le _ _ _ | exact bor_le _ _ _)) (isI_eq e1)) rfl ?_
    refine st (OK1.mv (Has.t rfl)) rfl ?_
    refine st (OK1.remI (Has.t rfl) (Has.cI 64 rfl) (by first | omega | assumption | exact True.intro | exact dig_lt _ _ | exact car_le _ _ _ | exact bor_le _ _ _) (by first | omega | assumption | exact True.intro | exact dig_lt _ _ | exact car_le _ _ _ | exact bor_le _ _ _) (by first | omega | assumption | exact True.intro | exact dig_lt _ _ | exact car_le _ _ _ | exact bor_le _ _ _)) rfl ?_
    refine st (OK1.eq (OK1.convIU un3 un42 (Has.t rfl) (by first | omega | assumption | exact True.intro | exact dig_lt _ _ | exact car_le _ _ _ | exact bor_le _ _ _) (by first | omega | assumption | exact True.intro | exact dig_lt _ _ | exact car_le _ _ _ | exact bor_le _ _ _)) (isU_eq e2)) rfl ?_
    refine st (OK1.as (Has.t rfl)) rfl ?_
    refine st (OK1.as (Has.t rfl)) rfl ?_
    refine nl ?_
    refine At.thn (hK5 _ _ ?_); clear hK5
    refine Tri.cv (Cv.wk (.cons (t := 0) (Has.t rfl) (.cons (t := 4) (Has.t rfl) (.cons (t := 5) (Has.t rfl) (.cons (t := 6) (Has.t rfl) (.cons (t := 7) (Has.t rfl) .nil)))))) ?_
    refine Tri.seq fun K6 hK6 => ?_
    refine Tri.seq fun K7 hK7 => ?_
    refine Tri.region ?_
    refine st (OK1.mv (Has.t rfl)) rfl ?_
    refine st (OK1.mv (Has.t rfl)) rfl ?_
    refine st (OK1.len sl23 (Has.t rfl)) rfl ?_
    refine st (OK1.geI (Has.t rfl) (Has.t rfl)) rfl ?_
    refine nl ?_
    refine At.thn (hK7 _ _ ?_); clear hK7
    refine Tri.cond (Has.t rfl) (fun hc2 => ?_) (fun hc2 => ?_)
    · have hc2 := BP.t hc2
      refine Tri.seq fun K8 hK8 => ?_
      refine Tri.region ?_
      refine Ops.cv (Cv.grow0 isU) ?_
      refine st (OK1.as (Has.onNil (α := Nat) Has.cS)) rfl ?_
      refine st (OK1.as (Has.cB true)) rfl ?_
      refine nl ?_
      refine At.thn (hK8 _ _ ?_); clear hK8
      refine Tri.ret ?_
      refine At.thr ?_
      refine rtXN (.inl rfl) Try.results15 rfl rfl (.tmp (Has.t rfl) (.tmp (Has.t rfl) .nil)) ?_
      exact ⟨Gr.nil, by rw [← shr_none (by omega)] <;> rfl, by rw [← shr_none (by omega)]⟩
    · have hc2 := BP.f hc2
      refine Tri.skip ?_
      refine At.thn (hK6 _ _ ?_); clear hK6
      refine Tri.seq fun K9 hK9 => ?_
      refine Tri.region ?_
      refine st (OK1.mv (Has.t rfl)) rfl ?_
      refine st (OK1.mv (Has.t rfl)) rfl ?_
      refine st (OK1.eq (OK1.slLM sl23 ty28 (Has.t rfl) (Has.t rfl) ⟨by omega, by omega⟩) (SlM_eq (drop_words (val xs) (k / 64)))) rfl ?_
      refine st (OK1.as (Has.t rfl)) rfl ?_
      refine nl ?_
      refine At.thn (hK9 _ _ ?_); clear hK9
      refine Tri.cv (Cv.wk (.cons (t := 0) (Has.t rfl) (.cons (t := 4) (Has.t rfl) (.cons (t := 5) (Has.t rfl) (.cons (t := 7) (Has.t rfl) .nil))))) ?_
      refine Tri.seq fun K10 hK10 => ?_
      refine Tri.region ?_
      refine st (OK1.mv (Has.t rfl)) rfl ?_
      refine st (OK1.len sl23 (Has.t rfl)) rfl ?_
      refine Ops.make (f := isU) (u := 0) (n := (List.length (words (val xs / W ^ (k / 64))))) (c := (List.length (words (val xs / W ^ (k / 64))))) sl23 ty28 zero28 (fun _ _ => ⟨⟨rfl, by decide⟩, trivial⟩) by28 (Has.t' rfl rfl) (Has.t' rfl rfl) ⟨by omega, by omega⟩ rfl fun b1 => ?_
      refine st (OK1.as (Has.t rfl)) rfl ?_
      refine nl ?_
      refine At.thn (hK10 _ _ ?_); clear hK10
      refine Tri.seq fun K11 hK11 => ?_
      refine Tri.seq fun K12 hK12 => ?_
      refine Tri.region ?_
      refine st (OK1.mv (Has.t rfl)) rfl ?_
      refine st (OK1.len sl23 (Has.t rfl)) rfl ?_
      refine st (OK1.mv (Has.cI 0 rfl)) rfl ?_
      refine nl ?_
      refine At.thn (hK12 _ _ ?_); clear hK12
      refine Tri.block ?_
      refine Tri.loopF [0, 4, 5, 7, 8, 30, 31] (fun (z : { i : Nat // i ≤ (List.length (words (val xs / W ^ (k / 64)))) }) => match z with | ⟨i, hI⟩ => [(32, isI (i : Int))]) (fun M => fun (z : { i : Nat // i ≤ (List.length (words (val xs / W ^ (k / 64)))) }) => match z with | ⟨i, hI⟩ => [(some b1, cellM (List.map isU (wpart ((val xs / W ^ (k / 64)) / 2 ^ (k % 64)) i ((List.length (words (val xs / W ^ (k / 64))))))))]) (fun (z : { i : Nat // i ≤ (List.length (words (val xs / W ^ (k / 64)))) }) => match z with | ⟨i, hI⟩ => (List.length (words (val xs / W ^ (k / 64)))) - i) (⟨0, Nat.zero_le _⟩) (Cv.mem (.cons (t := 32) (Has.t' rfl ?_) (.cons (t := 0) (Has.t rfl) (.cons (t := 4) (Has.t rfl) (.cons (t := 5) (Has.t rfl) (.cons (t := 7) (Has.t rfl) (.cons (t := 8) (Has.t rfl) (.cons (t := 30) (Has.t rfl) (.cons (t := 31) (Has.t rfl) .nil)))))))) ?_) ?_
      · rfl
      · exact memL_eq (wpart_zero _ _)
      rintro ⟨i, hI⟩ K13 hK13
      refine Tri.cv (Cv.wk (.cons (t := 32) (Has.t rfl) (.cons (t := 0) (Has.t rfl) (.cons (t := 4) (Has.t rfl) (.cons (t := 5) (Has.t rfl) (.cons (t := 7) (Has.t rfl) (.cons (t := 8) (Has.t rfl) (.cons (t := 30) (Has.t rfl) (.cons (t := 31) (Has.t rfl) .nil))))))))) ?_
      refine Tri.memEq (M' := [(some b1, cellM (List.map isU (wpart ((val xs / W ^ (k / 64)) / 2 ^ (k % 64)) i ((List.length (words (val xs / W ^ (k / 64))))))))]) rfl ?_
      have wl : (wpart ((val xs / W ^ (k / 64)) / 2 ^ (k % 64)) i ((List.length (words (val xs / W ^ (k / 64)))))).length = (List.length (words (val xs / W ^ (k / 64)))) := wpart_len (by omega)
      refine Tri.seq fun K14 hK14 => ?_
      refine Tri.region ?_
      refine st (OK1.ltI (Has.t rfl) (Has.t rfl)) rfl ?_
      refine nl ?_
      refine At.thn (hK14 _ _ ?_); clear hK14
      refine Tri.seq fun K15 hK15 => ?_
      refine Tri.cond (Has.t rfl) (fun hc3 => ?_) (fun hc3 => ?_)
      · have hc3 := BP.t hc3
        refine Tri.skip ?_
        refine At.thn (hK15 _ _ ?_); clear hK15
        refine Tri.seq fun K16 hK16 => ?_
        refine Tri.block ?_
        refine Tri.seq fun K17 hK17 => ?_
        refine Tri.region ?_
        refine st (OK1.mv (Has.t rfl)) rfl ?_
        refine st (OK1.ixP sl23 ty28 (Has.t rfl) (Has.t rfl) ⟨by omega, by omega⟩ (getD_some (d := 0) (by first | omega | (simp only [Int.toNat_natCast, List.length_set]; omega)))) rfl ?_
        refine st (OK1.eq (OK1.loadP1 (Has.t rfl) ty28) (isU_eq (getD_words _ i))) rfl ?_
        refine st (OK1.as (Has.t rfl)) rfl ?_
        refine st (OK1.as (Has.t rfl)) rfl ?_
        refine nl ?_
        refine At.thn (hK17 _ _ ?_); clear hK17
        refine Tri.seq fun K18 hK18 => ?_
        refine Tri.region ?_
        refine st (OK1.mv (Has.t rfl)) rfl ?_
        refine st (OK1.mv (Has.t rfl)) rfl ?_
        refine st (OK1.mv (Has.t rfl)) rfl ?_
        refine st (OK1.mv (Has.t rfl)) rfl ?_
        refine st (OK1.shrUU (Has.t rfl) (Has.t rfl) (by first | omega | assumption | exact True.intro | exact dig_lt _ _ | exact car_le _ _ _ | exact bor_le _ _ _)) rfl ?_
        refine st (OK1.eq (OK1.ixWin sl23 ty28 (Has.t rfl) (Has.t rfl) ⟨by omega, by omega⟩) (isPtr_eq (by first | exact ixo0 | exact ixo2 | exact ixo1))) rfl ?_
        refine Ops.storeM (Has.t rfl) (Has.t rfl) (i := 0) rfl ty28 (by first | omega | (simp only [Int.toNat_natCast, List.length_set, List.length_replicate]; omega)) (M' := [(_, _)]) rfl ?_
        refine nl ?_
        refine At.thn (hK18 _ _ ?_); clear hK18
        refine Tri.seq fun K19 hK19 => ?_
        refine Tri.region ?_
        refine st (OK1.mv (Has.t rfl)) rfl ?_
        refine st (OK1.gtU (Has.t rfl) (Has.cU 0 rfl)) rfl ?_
        refine st (OK1.mv (Has.t rfl)) rfl ?_
        refine stT rfl rfl (fun hg => have hg' := BP.t hg; OK1.mv (Has.t rfl)) rfl ?_
        refine stT rfl rfl (fun hg => have hg' := BP.t hg; OK1.addI (Has.g rfl hg) (Has.cI 1 rfl) (by first | omega | assumption | exact True.intro | exact dig_lt _ _ | exact car_le _ _ _ | exact bor_le _ _ _) (by first | omega | assumption | exact True.intro | exact dig_lt _ _ | exact car_le _ _ _ | exact bor_le _ _ _)) rfl ?_
        refine stT rfl rfl (fun hg => have hg' := BP.t hg; OK1.mv (Has.t rfl)) rfl ?_
        refine stT rfl rfl (fun hg => have hg' := BP.t hg; OK1.len sl23 (Has.g rfl hg)) rfl ?_
        refine stT rfl rfl (fun hg => have hg' := BP.t hg; OK1.ltI (Has.g rfl hg) (Has.g rfl hg)) rfl ?_
        refine st (OK1.pickAnd (Has.t rfl) (fun h => Has.g rfl h)) rfl ?_
        refine nl ?_
        refine At.thn (hK19 _ _ ?_); clear hK19
        refine Tri.cond (Has.t rfl) (fun hc4 => ?_) (fun hc4 => ?_)
        · have hc4 := BP.t hc4
          refine Tri.dr ?_
          refine DrG.st (i := 0) [] rfl rfl rfl (by kernel_rfl) (OKG.o rfl (OK1.mv (Has.t rfl))) ?_
          refine DrG.st (i := 1) [] rfl rfl rfl (by kernel_rfl) (OKG.o rfl (OK1.mv (Has.t rfl))) ?_
          refine DrG.st (i := 2) [52, 53] rfl rfl rfl (by kernel_rfl) (OKG.o rfl (OK1.eq (OK1.ixWin sl23 ty28 (Has.t rfl) (Has.t rfl) ⟨by omega, by omega⟩) (isPtr_eq (by first | exact ixo0 | exact ixo2 | exact ixo1)))) ?_
          refine DrG.st (i := 3) [54] rfl rfl rfl (by kernel_rfl) (OKG.o rfl (OK1.load1 (Has.t rfl) (i := 0) rfl ty28 (map_some (getD_some (d := 0) (by first | omega | (simp only [Int.toNat_natCast, List.length_set]; omega)))))) ?_
          refine DrG.st (i := 4) [] rfl rfl rfl (by kernel_rfl) (OKG.o rfl (OK1.mv (Has.t rfl))) ?_
          refine DrG.st (i := 5) [] rfl rfl rfl (by kernel_rfl) (OKG.o rfl (OK1.mv (Has.t rfl))) ?_
          refine DrG.st (i := 6) [57] rfl rfl rfl (by kernel_rfl) (OKG.o rfl (OK1.addI (Has.t rfl) (Has.cI 1 rfl) (by first | omega | assumption | exact True.intro | exact dig_lt _ _ | exact car_le _ _ _ | exact bor_le _ _ _) (by first | omega | assumption | exact True.intro | exact dig_lt _ _ | exact car_le _ _ _ | exact bor_le _ _ _))) ?_
          refine DrG.st (i := 7) [56, 58] rfl rfl rfl (by kernel_rfl) (OKG.o rfl (OK1.ixP sl23 ty28 (Has.t rfl) (Has.t rfl) ⟨by omega, by omega⟩ (getD_some (d := 0) (by first | omega | (simp only [Int.toNat_natCast, List.length_set]; omega))))) ?_
          refine DrG.st (i := 8) [59] rfl rfl rfl (by kernel_rfl) (OKG.o rfl (OK1.eq (OK1.loadP1 (Has.t rfl) ty28) ((show isU _ = isU (dig (val xs / W ^ (k / 64)) (i + 1)) from isU_eq (getD_words _ (i + 1)))))) ?_
          refine DrG.st (i := 9) [] rfl rfl rfl (by kernel_rfl) (OKG.o rfl (OK1.mv (Has.t rfl))) ?_
          refine DrG.st (i := 10) [61] rfl rfl rfl (by kernel_rfl) (OKG.o rfl (OK1.subU' (Has.cU 64 rfl) (Has.t rfl) (by first | omega | assumption | exact True.intro | exact dig_lt _ _ | exact car_le _ _ _ | exact bor_le _ _ _) (by first | omega | assumption | exact True.intro | exact dig_lt _ _ | exact car_le _ _ _ | exact bor_le _ _ _))) ?_
          refine DrG.st (i := 11) [60, 62] rfl rfl rfl (by kernel_rfl) (OKG.o rfl (OK1.shlUU (Has.t rfl) (Has.t rfl) (by first | omega | assumption | exact True.intro | exact dig_lt _ _ | exact car_le _ _ _ | exact bor_le _ _ _))) ?_
          refine DrG.fin (n := 12) mixed (by kernel_rfl) (by kernel_rfl) (by kernel_rfl) ?_
          refine Ops.cv (Cv.wk (.cons (t := 0) (Has.t rfl) (.cons (t := 4) (Has.t rfl) (.cons (t := 5) (Has.t rfl) (.cons (t := 7) (Has.t rfl) (.cons (t := 8) (Has.t rfl) (.cons (t := 30) (Has.t rfl) (.cons (t := 31) (Has.t rfl) (.cons (t := 32) (Has.t rfl) (.cons (t := 33) (Has.t rfl) (.cons (t := 34) (Has.t rfl) (.cons (t := 35) (Has.t rfl) (.cons (t := 36) (Has.t rfl) (.cons (t := 9) (Has.t rfl) (.cons (t := 10) (Has.t rfl) (.cons (t := 37) (Has.t rfl) (.cons (t := 38) (Has.t rfl) (.cons (t := 39) (Has.t rfl) (.cons (t := 40) (Has.t rfl) (.cons (t := 41) (Has.t rfl) (.cons (t := 42) (Has.t rfl) (.cons (t := 43) (Has.t rfl) (.cons (t := 44) (Has.t rfl) (.cons (t := 45) (Has.t rfl) (.cons (t := 46) (Has.t rfl) (.cons (t := 47) (Has.t rfl) (.cons (t := 48) (Has.t rfl) (.cons (t := 49) (Has.t rfl) (.cons (t := 50) (Has.t rfl) (.cons (t := 51) (Has.t rfl) (.cons (t := 52) (Has.t rfl) (.cons (t := 53) (Has.t rfl) (.cons (t := 54) (Has.t rfl) (.cons (t := 55) (Has.t rfl) (.cons (t := 56) (Has.t rfl) (.cons (t := 57) (Has.t rfl) (.cons (t := 58) (Has.t rfl) (.cons (t := 59) (Has.t rfl) (.cons (t := 60) (Has.t rfl) (.cons (t := 61) (Has.t rfl) (.cons (t := 62) (Has.t rfl) (.cons (t := 63) (Has.t rfl) .nil)))))))))))))))))))))))))))))))))))))))))) ?_
          refine st (OK1.orU (Has.t rfl) (Has.t rfl)) rfl ?_
          refine st (OK1.eq (OK1.ixWin sl23 ty28 (Has.t rfl) (Has.t rfl) ⟨by omega, by omega⟩) (isPtr_eq (by first | exact ixo0 | exact ixo2 | exact ixo1))) rfl ?_
          refine Ops.storeM (Has.t rfl) (Has.t rfl) (i := 0) rfl ty28 (by first | omega | (simp only [Int.toNat_natCast, List.length_set, List.length_replicate]; omega)) (M' := [(_, _)]) rfl ?_
          refine nl ?_
          refine At.bln ?_
          refine At.thn (hK16 _ _ ?_); clear hK16
          refine Tri.region ?_
          refine st (OK1.addI (Has.t rfl) (Has.cI 1 rfl) (by first | omega | assumption | exact True.intro | exact dig_lt _ _ | exact car_le _ _ _ | exact bor_le _ _ _) (by first | omega | assumption | exact True.intro | exact dig_lt _ _ | exact car_le _ _ _ | exact bor_le _ _ _)) rfl ?_
          refine st (OK1.mv (Has.t rfl)) rfl ?_
          refine nl ?_
          refine At.thn ?_
          refine hK13 (⟨i + 1, by omega⟩) _ _ ?_ (Cv.mem (.cons (t := 32) (Has.t' rfl ?_) (.cons (t := 0) (Has.t rfl) (.cons (t := 4) (Has.t rfl) (.cons (t := 5) (Has.t rfl) (.cons (t := 7) (Has.t rfl) (.cons (t := 8) (Has.t rfl) (.cons (t := 30) (Has.t rfl) (.cons (t := 31) (Has.t rfl) .nil)))))))) ?_)
          · show (List.length (words (val xs / W ^ (k / 64)))) - (i + 1) < (List.length (words (val xs / W ^ (k / 64)))) - i; omega
          · rfl
          · exact memL_eq (shr_step2 (by omega) (by omega))
        · have hc4 := BP.f hc4
          refine Tri.skip ?_
          refine At.bln ?_
          refine At.thn (hK16 _ _ ?_); clear hK16
          refine Tri.region ?_
          refine st (OK1.addI (Has.t rfl) (Has.cI 1 rfl) (by first | omega | assumption | exact True.intro | exact dig_lt _ _ | exact car_le _ _ _ | exact bor_le _ _ _) (by first | omega | assumption | exact True.intro | exact dig_lt _ _ | exact car_le _ _ _ | exact bor_le _ _ _)) rfl ?_
          refine st (OK1.mv (Has.t rfl)) rfl ?_
          refine nl ?_
          refine At.thn ?_
          refine hK13 (⟨i + 1, by omega⟩) _ _ ?_ (Cv.mem (.cons (t := 32) (Has.t' rfl ?_) (.cons (t := 0) (Has.t rfl) (.cons (t := 4) (Has.t rfl) (.cons (t := 5) (Has.t rfl) (.cons (t := 7) (Has.t rfl) (.cons (t := 8) (Has.t rfl) (.cons (t := 30) (Has.t rfl) (.cons (t := 31) (Has.t rfl) .nil)))))))) ?_)
          · show (List.length (words (val xs / W ^ (k / 64)))) - (i + 1) < (List.length (words (val xs / W ^ (k / 64)))) - i; omega
          · rfl
          · exact memL_eq (shr_step1 (by omega) (by omega) rfl (by omega))
      · have hc3 := BP.f hc3
        refine Tri.exit ?_
        refine At.the ?_
        refine At.the ?_
        refine At.blh ?_
        refine At.thn (hK11 _ _ ?_); clear hK11
        refine Tri.cv (Cv.wk (.cons (t := 4) (Has.t rfl) (.cons (t := 5) (Has.t rfl) (.cons (t := 8) (Has.t rfl) .nil)))) ?_
        refine Tri.seq fun K20 hK20 => ?_
        refine Tri.region ?_
        refine Ops.cv (Cv.memEq (M' := [(some b1, cellM (List.map isU (wordsN ((List.length (words (val xs / W ^ (k / 64))))) ((val xs / W ^ (k / 64)) / 2 ^ (k % 64)))))]) (memL_eq (by obtain rfl : i = (List.length (words (val xs / W ^ (k / 64)))) := (by omega); exact wpart_full _ _))) ?_
        refine st (OK1.mv (Has.t rfl)) rfl ?_
        refine Ops.callX (nat_normalG (zs := wordsN ((List.length (words (val xs / W ^ (k / 64))))) ((val xs / W ^ (k / 64)) / 2 ^ (k % 64))) (wordsN_ok _ _) (by rw [wordsN_len]; omega) (wordsN_len _ _).symm) (List.Perm.refl _) (.cons (Has.t rfl) .nil) rfl ?_
        rintro _ _ ⟨g, rfl, rfl⟩
        refine st (OK1.as (Has.t rfl)) rfl ?_
        refine st (OK1.as (Has.cB true)) rfl ?_
        refine nl ?_
        refine At.thn (hK20 _ _ ?_); clear hK20
        refine Tri.ret ?_
        refine rtXN (.inl rfl) Try.results15 rfl rfl (.tmp (Has.t rfl) (.tmp (Has.t rfl) .nil)) ?_
        have he := shr_end (A := val xs) (k := k) rfl
        exact ⟨g, by rw [he] <;> rfl, by rw [he] <;> rfl⟩
set_option maxHeartbeats 4000000 in
theorem div_SmallX {xs : List Nat} {x : Nat} (hx : (List.length (words (val xs))) < 4294900000) (hx0 : x ≠ 0) : CtrX Try.prog 7 [isWords xs, isU x] ([]) (fun S M => ∃ g : Gr Nat, S = isTup [isOwn g ((List.length (words (val xs / x)))), isU (val xs % x), isB true] ∧ M = [grM isU g (words (val xs / x))]) := by
  refine CtrX.intro Try.func7 rfl (by kernel_rfl) Try.ntmps7 rfl fun w0 F0 => ?_
  refine Tri.cv (Cv.wk (.cons (t := 0) (Has.t rfl) (.cons (t := 1) (Has.t rfl) .nil))) ?_
  refine Tri.fact (Has.lenLt (Has.t (t := 0) rfl)) fun lt0 => ?_
  refine Tri.fact (Has.okW (Has.t (t := 0) rfl)) fun ok0 => ?_
  refine Tri.fact (Has.ltU (Has.t (t := 1) rfl)) fun lt1 => ?_
  refine Tri.seq fun K1 hK1 => ?_
  refine Tri.region ?_
  refine st (OK1.as (Has.cW (f := isU))) rfl ?_
  refine st (OK1.as (Has.cU 0 rfl)) rfl ?_
  refine st (OK1.as (Has.cB false)) rfl ?_
  refine nl ?_
  refine At.thn (hK1 _ _ ?_); clear hK1
  refine Tri.seq fun K2 hK2 => ?_
  refine Tri.seq fun K3 hK3 => ?_
  refine Tri.region ?_
  refine st (OK1.mv (Has.t rfl)) rfl ?_
  refine st (OK1.eqU (Has.t rfl) (Has.cU 0 rfl)) rfl ?_
  refine nl ?_
  refine At.thn (hK3 _ _ ?_); clear hK3
  refine Tri.cond (Has.t rfl) (fun hc1 => ?_) (fun hc1 => ?_)
  · have hc1 := BP.t hc1
    exfalso; first | omega | contradiction | (revert hc1; simp)
  · have hc1 := BP.f hc1
    refine Tri.skip ?_
    refine At.thn (hK2 _ _ ?_); clear hK2
    refine Tri.seq fun K4 hK4 => ?_
    refine Tri.region ?_
    refine st (OK1.mv (Has.t rfl)) rfl ?_
    refine Ops.callO (nat_NormO (by omega)) (.cons (Has.t rfl) .nil) rfl (fun hO2 => ?_) (fun hO2 b1 cb1 jb1 => ?_)
    · skip
      refine st (OK1.as (Has.t rfl)) rfl ?_
      refine nl ?_
      refine At.thn (hK4 _ _ ?_); clear hK4
      refine Tri.seq fun K5 hK5 => ?_
      refine Tri.region ?_
      refine st (OK1.as (Has.cU 0 rfl)) rfl ?_
      refine nl ?_
      refine At.thn (hK5 _ _ ?_); clear hK5
      refine Tri.seq fun K6 hK6 => ?_
      refine Tri.seq fun K7 hK7 => ?_
      refine Tri.region ?_
      refine st (OK1.mv (Has.t rfl)) rfl ?_
      refine st (OK1.len sl23 (Has.t rfl)) rfl ?_
      refine st (OK1.subI (Has.t rfl) (Has.cI 1 rfl) (by first | omega | (simp only [List.length_nil]; omega)) (by first | omega | (simp only [List.length_nil]; omega))) rfl ?_
      refine st (OK1.as (Has.t rfl)) rfl ?_
      refine nl ?_
      refine At.thn (hK7 _ _ ?_); clear hK7
      refine Tri.cv (Cv.wk (.cons (t := 0) (Has.t rfl) (.cons (t := 1) (Has.t rfl) (.cons (t := 4) (Has.t rfl) (.cons (t := 5) (Has.t rfl) (.cons (t := 6) (Has.t rfl) (.cons (t := 7) (Has.t rfl) (.cons (t := 8) (Has.t rfl) .nil)))))))) ?_
      refine Tri.block ?_
      refine Tri.loopF [0, 1, 4, 5, 6] (fun (_ : Unit) => [(8, isI (-1)), (7, isU 0)]) (fun M => fun (_ : Unit) => M) (fun (_ : Unit) => 0) (()) (Cv.mem (.cons (t := 8) (Has.t' rfl ?_) (.cons (t := 7) (Has.t' rfl ?_) (.cons (t := 0) (Has.t rfl) (.cons (t := 1) (Has.t rfl) (.cons (t := 4) (Has.t rfl) (.cons (t := 5) (Has.t rfl) (.cons (t := 6) (Has.t rfl) .nil))))))) ?_) ?_
      · rfl
      · rfl
      · rfl
      rintro _ K8 hK8
      refine Tri.cv (Cv.wk (.cons (t := 8) (Has.t rfl) (.cons (t := 7) (Has.t rfl) (.cons (t := 0) (Has.t rfl) (.cons (t := 1) (Has.t rfl) (.cons (t := 4) (Has.t rfl) (.cons (t := 5) (Has.t rfl) (.cons (t := 6) (Has.t rfl) .nil)))))))) ?_
      refine Tri.seq fun K9 hK9 => ?_
      refine Tri.seq fun K10 hK10 => ?_
      refine Tri.region ?_
      refine st (OK1.mv (Has.t rfl)) rfl ?_
      refine st (OK1.geI (Has.t rfl) (Has.cI 0 rfl)) rfl ?_
      refine nl ?_
      refine At.thn (hK10 _ _ ?_); clear hK10
      refine Tri.cond (Has.t rfl) (fun hc3 => ?_) (fun hc3 => ?_)
      · have hc3 := BP.t hc3
        exfalso; first | omega | contradiction | (revert hc3; simp)
      · have hc3 := BP.f hc3
        refine Tri.exit ?_
        refine At.the ?_
        refine At.the ?_
        refine At.blh ?_
        refine At.thn (hK6 _ _ ?_); clear hK6
        refine Tri.seq fun K11 hK11 => ?_
        refine Tri.region ?_
        refine st (OK1.mv (Has.t rfl)) rfl ?_
        refine Ops.callX (nat_NormX (by first | (rw [val_wordsN]; exact normLe (by omega)) | (show (words 0).length ≤ _; rw [words_zero]; exact Nat.zero_le _))) (List.Perm.refl _) (.cons (Has.t rfl) .nil) rfl ?_
        rintro _ _ ⟨g, rfl, rfl⟩
        refine st (OK1.mv (Has.t rfl)) rfl ?_
        refine st (OK1.as (Has.t rfl)) rfl ?_
        refine st (OK1.as (Has.t rfl)) rfl ?_
        refine st (OK1.as (Has.cB true)) rfl ?_
        refine nl ?_
        refine At.thn (hK11 _ _ ?_); clear hK11
        refine Tri.cv (Cv.wk (.cons (t := 4) (Has.t rfl) (.cons (t := 5) (Has.t rfl) (.cons (t := 6) (Has.t rfl) .nil)))) ?_
        refine Tri.ret ?_
        refine rtXND (.cons_cons _ .slnil) (.inl rfl) Try.results7 rfl rfl (.tmp (Has.t rfl) (.tmp (Has.t rfl) (.tmp (Has.t rfl) .nil))) ?_
        exact ⟨g, by rw [of_words_nil hO2, Nat.zero_div, Nat.zero_mod] <;> rfl, by rw [of_words_nil hO2, Nat.zero_div] <;> rfl⟩
    · skip
      refine st (OK1.as (Has.t rfl)) rfl ?_
      refine nl ?_
      refine At.thn (hK4 _ _ ?_); clear hK4
      refine Tri.seq fun K12 hK12 => ?_
      refine Tri.region ?_
      refine st (OK1.as (Has.cU 0 rfl)) rfl ?_
      refine nl ?_
      refine At.thn (hK12 _ _ ?_); clear hK12
      refine Tri.seq fun K13 hK13 => ?_
      refine Tri.seq fun K14 hK14 => ?_
      refine Tri.region ?_
      refine st (OK1.mv (Has.t rfl)) rfl ?_
      refine st (OK1.len sl23 (Has.t rfl)) rfl ?_
      refine st (OK1.subI (Has.t rfl) (Has.cI 1 rfl) (by first | omega | (simp only [List.length_nil]; omega)) (by first | omega | (simp only [List.length_nil]; omega))) rfl ?_
      refine st (OK1.as (Has.t rfl)) rfl ?_
      refine nl ?_
      refine At.thn (hK14 _ _ ?_); clear hK14
      refine Tri.cv (Cv.wk (.cons (t := 0) (Has.t rfl) (.cons (t := 1) (Has.t rfl) (.cons (t := 4) (Has.t rfl) (.cons (t := 5) (Has.t rfl) (.cons (t := 6) (Has.t rfl) (.cons (t := 7) (Has.t rfl) (.cons (t := 8) (Has.t rfl) .nil)))))))) ?_
      refine Tri.block ?_
      refine Tri.loopF [0, 1, 4, 5, 6] (fun (z : { k : Nat // k ≤ (List.length (words (val xs))) }) => match z with | ⟨k, hI⟩ => [(8, isI ((k : Int) - 1)), (7, isU (val xs / W ^ k % x))]) (fun M => fun (z : { k : Nat // k ≤ (List.length (words (val xs))) }) => match z with | ⟨k, hI⟩ => [(some b1, cellM (List.map isU (mix k (val xs) (val xs / x) ((List.length (words (val xs)))) ++ List.replicate jb1 0)))]) (fun (z : { k : Nat // k ≤ (List.length (words (val xs))) }) => match z with | ⟨k, hI⟩ => k) (⟨(List.length (words (val xs))), Nat.le_refl _⟩) (Cv.mem (.cons (t := 8) (Has.t' rfl ?_) (.cons (t := 7) (Has.t' rfl ?_) (.cons (t := 0) (Has.t rfl) (.cons (t := 1) (Has.t rfl) (.cons (t := 4) (Has.t rfl) (.cons (t := 5) (Has.t rfl) (.cons (t := 6) (Has.t rfl) .nil))))))) ?_) ?_
      · rfl
      · exact isU_eq (by rw [Nat.div_eq_of_lt (nw_lt _), Nat.zero_mod])
      · exact memL_eq (smallStart _ _ _)
      rintro ⟨k, hI⟩ K15 hK15
      refine Tri.cv (Cv.wk (.cons (t := 8) (Has.t rfl) (.cons (t := 7) (Has.t rfl) (.cons (t := 0) (Has.t rfl) (.cons (t := 1) (Has.t rfl) (.cons (t := 4) (Has.t rfl) (.cons (t := 5) (Has.t rfl) (.cons (t := 6) (Has.t rfl) .nil)))))))) ?_
      refine Tri.memEq (M' := [(some b1, cellM (List.map isU (mix k (val xs) (val xs / x) ((List.length (words (val xs)))) ++ List.replicate jb1 0)))]) rfl ?_
      have wl : (mix k (val xs) (val xs / x) ((List.length (words (val xs)))) ++ List.replicate jb1 0).length = (List.length (words (val xs))) + jb1 := by rw [List.length_append, mix_len hI, List.length_replicate]
      have ek : ((k : Int) - 1).toNat = k - 1 := by omega
      refine Tri.seq fun K16 hK16 => ?_
      refine Tri.seq fun K17 hK17 => ?_
      refine Tri.region ?_
      refine st (OK1.mv (Has.t rfl)) rfl ?_
      refine st (OK1.geI (Has.t rfl) (Has.cI 0 rfl)) rfl ?_
      refine nl ?_
      refine At.thn (hK17 _ _ ?_); clear hK17
      refine Tri.cond (Has.t rfl) (fun hc4 => ?_) (fun hc4 => ?_)
      · have hc4 := BP.t hc4
        refine Tri.skip ?_
        refine At.thn (hK16 _ _ ?_); clear hK16
        refine Tri.seq fun K18 hK18 => ?_
        refine Tri.block ?_
        refine Tri.region ?_
        refine st (OK1.mv (Has.t rfl)) rfl ?_
        refine st (OK1.mv (Has.t rfl)) rfl ?_
        refine st (OK1.mv (Has.t rfl)) rfl ?_
        refine st (OK1.mv (Has.t rfl)) rfl ?_
        refine st (OK1.mv (Has.t rfl)) rfl ?_
        refine st (OK1.eq (OK1.ixWin sl23 ty28 (Has.t rfl) (Has.t rfl) ⟨by omega, by omega⟩) (isPtr_eq (by first | exact ixo0 | exact ixo2 | exact ixo1))) rfl ?_
        refine st (OK1.eq (OK1.load1 (Has.t rfl) (i := 0) rfl ty28 (map_some (getD_some (d := 0) (by omega)))) ((show isU _ = isU (dig (val xs) (k - 1)) from isU_eq (by rw [ek, getD_app (by rw [mix_len hI]; omega), mix_low (by omega)])))) rfl ?_
        refine st (OK1.mv (Has.t rfl)) rfl ?_
        refine st (OK1.call (bits_Div64 (Nat.mod_lt _ (by omega))) (.cons (Has.t rfl) (.cons (Has.t rfl) (.cons (Has.t rfl) .nil)))) rfl ?_
        refine st (OK1.mv (Has.t rfl)) rfl ?_
        refine st (OK1.ext (Has.t rfl) rfl) rfl ?_
        refine st (OK1.ext (Has.t rfl) rfl) rfl ?_
        refine st (OK1.eq (OK1.ixWin sl23 ty28 (Has.t rfl) (Has.t rfl) ⟨by omega, by omega⟩) (isPtr_eq (by first | exact ixo0 | exact ixo2 | exact ixo1))) rfl ?_
        refine Ops.storeM (Has.t rfl) (Has.t rfl) (i := 0) rfl ty28 (by omega) (M' := [(_, _)]) rfl ?_
        refine st (OK1.as (Has.t rfl)) rfl ?_
        refine nl ?_
        refine At.bln ?_
        refine At.thn (hK18 _ _ ?_); clear hK18
        refine Tri.region ?_
        refine st (OK1.mv (Has.t rfl)) rfl ?_
        refine st (OK1.subI (Has.t rfl) (Has.cI 1 rfl) (by first | omega | (simp only [List.length_nil]; omega)) (by first | omega | (simp only [List.length_nil]; omega))) rfl ?_
        refine st (OK1.as (Has.t rfl)) rfl ?_
        refine nl ?_
        refine At.thn ?_
        have hs := small_step (A := val xs) (x := x) (by omega) (by omega : 0 < k)
        refine hK15 (⟨k - 1, by omega⟩) _ _ ?_ (Cv.mem (.cons (t := 8) (Has.t' rfl ?_) (.cons (t := 7) (Has.t' rfl ?_) (.cons (t := 0) (Has.t rfl) (.cons (t := 1) (Has.t rfl) (.cons (t := 4) (Has.t rfl) (.cons (t := 5) (Has.t rfl) (.cons (t := 6) (Has.t rfl) .nil))))))) ?_)
        · show k - 1 < k; omega
        · exact isI_eq (by show _ = ((k - 1 : Nat) : Int) - 1; omega)
        · exact isU_eq hs.2
        · exact memL_eq (by rw [ek]; exact mix_down (by omega) hI hs.1)
      · have hc4 := BP.f hc4
        refine Tri.exit ?_
        refine At.the ?_
        refine At.the ?_
        refine At.blh ?_
        refine At.thn (hK13 _ _ ?_); clear hK13
        refine Tri.seq fun K19 hK19 => ?_
        refine Tri.cv (Cv.freeze' (t := 0) (i := 0) (ys := wordsN ((List.length (words (val xs)))) (val xs / x)) rfl rfl rfl (by omega) (by obtain rfl : k = 0 := (by omega); exact smallEnd rfl)) ?_
        refine Tri.memEq (M' := []) rfl ?_
        refine Tri.cv (Cv.wk (.cons (t := 0) (Has.t rfl) (.cons (t := 1) (Has.t rfl) (.cons (t := 4) (Has.t rfl) (.cons (t := 5) (Has.t rfl) (.cons (t := 6) (Has.t rfl) (.cons (t := 8) (Has.t rfl) (.cons (t := 7) (Has.t rfl) (.cons (t := 16) (Has.t rfl) (.cons (t := 17) (Has.t rfl) .nil)))))))))) ?_
        refine Tri.region ?_
        refine st (OK1.mv (Has.t rfl)) rfl ?_
        refine Ops.callX (nat_NormX (by first | (rw [val_wordsN]; exact normLe (by omega)) | (show (words 0).length ≤ _; rw [words_zero]; exact Nat.zero_le _))) (List.Perm.refl _) (.cons (Has.t rfl) .nil) rfl ?_
        rintro _ _ ⟨g, rfl, rfl⟩
        refine st (OK1.mv (Has.t rfl)) rfl ?_
        refine st (OK1.as (Has.t rfl)) rfl ?_
        refine st (OK1.as (Has.t rfl)) rfl ?_
        refine st (OK1.as (Has.cB true)) rfl ?_
        refine nl ?_
        refine At.thn (hK19 _ _ ?_); clear hK19
        refine Tri.cv (Cv.wk (.cons (t := 4) (Has.t rfl) (.cons (t := 5) (Has.t rfl) (.cons (t := 6) (Has.t rfl) .nil)))) ?_
        refine Tri.ret ?_
        refine rtXND (.cons_cons _ .slnil) (.inl rfl) Try.results7 rfl rfl (.tmp (Has.t rfl) (.tmp (Has.t rfl) (.tmp (Has.t rfl) .nil))) ?_
        obtain rfl : k = 0 := (by omega)
        have hq := words_quo (val xs) x
        exact ⟨g, by rw [hq, Nat.pow_zero, Nat.div_one], by rw [hq]⟩
end Go.Proofs.Ytlonhlafnimcmaa
/- Contracts: quotients and rests that are handed back to be written. -/
namespace Go.Proofs.Ytlonhlafnimcmaa
open Go.En Go.RowKit
set_option linter.unusedVariables false
set_option maxRecDepth 10000
open Go.Nt
theorem div_SmallXw {A x : Nat} (hx : (List.length (words A)) < 4294900000) (hx0 : x ≠ 0) : CtrX Try.prog 7 [isWords (words A), isU x] [] (fun S M => ∃ g : Gr Nat, S = isTup [isOwn g ((List.length (words (A / x)))), isU (A % x), isB true] ∧ M = [grM isU g (words (A / x))]) := by
  have h := div_SmallX (xs := words A) (x := x) (by rw [val_words]; omega) hx0
  rwa [val_words] at h
theorem own_tup {g1 g2 : Gr Nat} {A1 A2 B1 B2 : List Nat} {b c : Bool} (h1 : A1 = B1) (h2 : A2 = B2) (h3 : b = c) : ∃ g1' g2' : Gr Nat, isTup [isOwn g1 A1.length, isOwn g2 A2.length, isB b] = isTup [isOwn g1' B1.length, isOwn g2' B2.length, isB c] ∧ ([grM isU g1 A1, grM isU g2 A2] : Mem) = [grM isU g1' B1, grM isU g2' B2] := by
  subst h1 h2 h3; exact ⟨g1, g2, rfl, rfl⟩
set_option maxHeartbeats 4000000 in
theorem div_DivModX {xs ys : List Nat} (hx : (List.length (words (val xs))) < 4294800000) (hy : (List.length (words (val ys))) < 4294800000) : CtrX Try.prog 5 [isWords xs, isWords ys] ([]) (fun S M => ∃ g1 g2 : Gr Nat, S = isTup [isOwn g1 ((List.length (words (val xs / val ys)))), isOwn g2 ((List.length (words (if val ys = 0 then 0 else val xs % val ys)))), isB (decide (val ys ≠ 0))] ∧ M = [grM isU g1 (words (val xs / val ys)), grM isU g2 (words (if val ys = 0 then 0 else val xs % val ys))]) := by
  refine CtrX.intro Try.func5 rfl (by kernel_rfl) Try.ntmps5 rfl fun w0 F0 => ?_
  refine Tri.cv (Cv.wk (.cons (t := 0) (Has.t rfl) (.cons (t := 1) (Has.t rfl) .nil))) ?_
  refine Tri.fact (Has.lenLt (Has.t (t := 0) rfl)) fun lt0 => ?_
  refine Tri.fact (Has.okW (Has.t (t := 0) rfl)) fun ok0 => ?_
  refine Tri.fact (Has.lenLt (Has.t (t := 1) rfl)) fun lt1 => ?_
  refine Tri.fact (Has.okW (Has.t (t := 1) rfl)) fun ok1 => ?_
  refine Tri.seq fun K1 hK1 => ?_
  refine Tri.region ?_
  refine st (OK1.as (Has.cW (f := isU))) rfl ?_
  refine st (OK1.as (Has.cW (f := isU))) rfl ?_
  refine st (OK1.as (Has.cB false)) rfl ?_
  refine nl ?_
  refine At.thn (hK1 _ _ ?_); clear hK1
  refine Tri.seq fun K2 hK2 => ?_
  refine Tri.region ?_
  refine st (OK1.mv (Has.t rfl)) rfl ?_
  refine Ops.callXB (nat_NormX (by omega)) (.cons (HasB.of (Has.t rfl)) .nil) rfl (by rintro _ _ ⟨_, rfl, rfl⟩; exact ⟨inferInstance, .words .nil⟩) ?_
  rintro _ _ ⟨gA, rfl, rfl⟩
  refine st (OK1.mv (Has.t rfl)) rfl ?_
  refine Ops.callXB (nat_NormX (by omega)) (.cons (HasB.of (Has.t rfl)) .nil) rfl (by rintro _ _ ⟨_, rfl, rfl⟩; exact ⟨inferInstance, .words .nil⟩) ?_
  rintro _ _ ⟨gB, rfl, rfl⟩
  refine st (OK1.as (Has.t rfl)) rfl ?_
  refine st (OK1.as (Has.t rfl)) rfl ?_
  refine nl ?_
  refine At.thn (hK2 _ _ ?_); clear hK2
  refine Tri.seq fun K3 hK3 => ?_
  refine Tri.block ?_
  refine Tri.seq fun K4 hK4 => ?_
  refine Tri.region ?_
  refine st (OK1.mv (Has.t rfl)) rfl ?_
  refine st (OK1.len sl23 (Has.t rfl)) rfl ?_
  refine st (OK1.eqI (Has.t rfl) (Has.cI 0 rfl)) rfl ?_
  refine st (OK1.as (Has.t rfl)) rfl ?_
  refine nl ?_
  refine At.thn (hK4 _ _ ?_); clear hK4
  refine Tri.cv (Cv.wk (.cons (t := 0) (Has.t rfl) (.cons (t := 1) (Has.t rfl) (.cons (t := 4) (Has.t rfl) (.cons (t := 5) (Has.t rfl) (.cons (t := 6) (Has.t rfl) (.cons (t := 23) (Has.t rfl) .nil))))))) ?_
  refine Tri.cond (Has.t rfl) (fun hc1 => ?_) (fun hc1 => ?_)
  · have hc1 := BP.t hc1
    refine Tri.seq fun K5 hK5 => ?_
    refine Tri.region ?_
    refine Ops.cv (Cv.trans (Cv.drop (.cons _ (.cons _ .slnil))) (Cv.trans (Cv.grow0 isU) (Cv.grow0 isU))) ?_
    refine st (OK1.as (Has.onNil (α := Nat) Has.cS)) rfl ?_
    refine st (OK1.as (Has.onNil (α := Nat) Has.cS)) rfl ?_
    refine st (OK1.as (Has.cB false)) rfl ?_
    refine nl ?_
    refine At.thn (hK5 _ _ ?_); clear hK5
    refine Tri.ret ?_
    refine At.blr ?_
    refine At.thr ?_
    refine rtXN (.inl rfl) Try.results5 rfl rfl (.tmp (Has.t rfl) (.tmp (Has.t rfl) (.tmp (Has.t rfl) .nil))) ?_
    have h0 : val ys = 0 := bits_zero (by omega)
    exact own_tup (g1 := Gr.nil) (g2 := Gr.nil) (A1 := []) (A2 := []) (by rw [h0, Nat.div_zero, words_zero]) (by rw [if_pos h0, words_zero]) (by simp [h0])
  · have hc1 := BP.f hc1
    refine Tri.seq fun K6 hK6 => ?_
    refine Tri.region ?_
    refine st (OK1.mv (Has.t rfl)) rfl ?_
    refine st (OK1.mv (Has.t rfl)) rfl ?_
    refine st (OK1.eq (OK1.callB nat_Cmp (.cons (HasB.own (Has.t rfl) (i := 1) rfl rfl) (.cons (HasB.own (Has.t rfl) (i := 0) rfl rfl) .nil))) (by first | (simp only [val_words]; rfl) | rfl)) rfl ?_
    refine st (OK1.ltI (Has.t rfl) (Has.cI 0 rfl)) rfl ?_
    refine st (OK1.as (Has.t rfl)) rfl ?_
    refine nl ?_
    refine At.thn (hK6 _ _ ?_); clear hK6
    refine Tri.cv (Cv.wk (.cons (t := 0) (Has.t rfl) (.cons (t := 1) (Has.t rfl) (.cons (t := 4) (Has.t rfl) (.cons (t := 5) (Has.t rfl) (.cons (t := 6) (Has.t rfl) (.cons (t := 27) (Has.t rfl) .nil))))))) ?_
    refine Tri.cond (Has.t rfl) (fun hc2 => ?_) (fun hc2 => ?_)
    · have hc2 := BP.t hc2
      have hlt := cmpN_neg.1 hc2
      refine Tri.seq fun K7 hK7 => ?_
      refine Tri.region ?_
      refine st (OK1.mv (Has.t rfl)) rfl ?_
      refine Ops.cv (Cv.trans (Cv.drop (.cons _ (.cons_cons _ .slnil))) (Cv.grow0 isU)) ?_
      refine st (OK1.as (Has.onNil (α := Nat) Has.cS)) rfl ?_
      refine st (OK1.as (Has.t rfl)) rfl ?_
      refine st (OK1.as (Has.cB true)) rfl ?_
      refine nl ?_
      refine At.thn (hK7 _ _ ?_); clear hK7
      refine Tri.ret ?_
      refine At.blr ?_
      refine At.thr ?_
      refine rtXN (.inl rfl) Try.results5 rfl rfl (.tmp (Has.t rfl) (.tmp (Has.t rfl) (.tmp (Has.t rfl) .nil))) ?_
      exact own_tup (g1 := Gr.nil) (A1 := []) (by rw [Nat.div_eq_of_lt hlt, words_zero]) (by rw [if_neg (by omega), Nat.mod_eq_of_lt hlt]) (by simp; omega)
    · have hc2 := BP.f hc2
      have hle : val ys ≤ val xs := Nat.le_of_not_lt (fun h => by have := cmpN_neg.2 h; omega)
      refine Tri.seq fun K8 hK8 => ?_
      refine Tri.cv (Cv.trans (Cv.freezeOn (t := 0) (i := 1) (ys := words (val xs)) rfl rfl rfl rfl) (Cv.trans (Cv.freezeOn (t := 1) (i := 0) (ys := words (val ys)) rfl rfl rfl rfl) (Cv.memEq (M' := []) rfl))) ?_
      refine Tri.region ?_
      refine st (OK1.mv (Has.t rfl)) rfl ?_
      refine st (OK1.len sl23 (Has.t rfl)) rfl ?_
      refine st (OK1.eqI (Has.t rfl) (Has.cI 1 rfl)) rfl ?_
      refine st (OK1.as (Has.t rfl)) rfl ?_
      refine nl ?_
      refine At.thn (hK8 _ _ ?_); clear hK8
      refine Tri.cond (Has.t rfl) (fun hc3 => ?_) (fun hc3 => ?_)
      · have hc3 := BP.t hc3
        have hB : val ys ≠ 0 := fun e => by rw [e, words_zero] at hc1; simp at hc1
        refine Tri.seq fun K9 hK9 => ?_
        refine Tri.region ?_
        refine st (OK1.mv (Has.t rfl)) rfl ?_
        refine st (OK1.mv (Has.t rfl)) rfl ?_
        refine st (OK1.ixP sl23 ty28 (Has.t rfl) (Has.cI 0 rfl) ⟨by omega, by omega⟩ (getD_some (d := 0) (by first | omega | (simp only [Int.toNat_natCast, List.length_set]; omega)))) rfl ?_
        refine st (OK1.eq (OK1.loadP1 (Has.t rfl) ty28) ((show isU _ = isU (val ys) from isU_eq (one_word (by omega))))) rfl ?_
        refine Ops.callX (div_SmallXw (by omega) hB) (List.Perm.refl _) (.cons (Has.t rfl) (.cons (Has.t rfl) .nil)) rfl ?_
        rintro _ _ ⟨gq, rfl, rfl⟩
        refine Ops.memEq (M' := [grM isU gq _]) rfl ?_
        refine st (OK1.mv (Has.t rfl)) rfl ?_
        refine st (OK1.ext (Has.t rfl) rfl) rfl ?_
        refine st (OK1.ext (Has.t rfl) rfl) rfl ?_
        refine st (OK1.ext (Has.t rfl) rfl) rfl ?_
        refine st (OK1.as (Has.t rfl)) rfl ?_
        refine st (OK1.as (Has.t rfl)) rfl ?_
        refine st (OK1.as (Has.t rfl)) rfl ?_
        refine nl ?_
        refine At.thn (hK9 _ _ ?_); clear hK9
        refine Tri.cv (Cv.wk (.cons (t := 0) (Has.t rfl) (.cons (t := 1) (Has.t rfl) (.cons (t := 4) (Has.t rfl) (.cons (t := 5) (Has.t rfl) (.cons (t := 6) (Has.t rfl) (.cons (t := 7) (Has.t rfl) (.cons (t := 8) (Has.t rfl) .nil)))))))) ?_
        refine Tri.seq fun K10 hK10 => ?_
        refine Tri.region ?_
        refine st (OK1.mv (Has.t rfl)) rfl ?_
        refine st (OK1.mv (Has.t rfl)) rfl ?_
        refine Ops.callX nat_OfX (List.Perm.refl _) (.cons (Has.t rfl) .nil) rfl ?_
        rintro _ _ ⟨gr, rfl, rfl⟩
        refine Ops.memEq (M' := [grM isU gr _, grM isU gq _]) rfl ?_
        refine Ops.cv (Cv.perm (List.Perm.swap _ _ _)) ?_
        refine st (OK1.as (Has.t rfl)) rfl ?_
        refine st (OK1.as (Has.t rfl)) rfl ?_
        refine st (OK1.as (Has.cB true)) rfl ?_
        refine nl ?_
        refine At.thn (hK10 _ _ ?_); clear hK10
        refine Tri.cv (Cv.wk (.cons (t := 0) (Has.t rfl) (.cons (t := 1) (Has.t rfl) (.cons (t := 4) (Has.t rfl) (.cons (t := 5) (Has.t rfl) (.cons (t := 6) (Has.t rfl) .nil)))))) ?_
        refine Tri.ret ?_
        refine At.blr ?_
        refine At.thr ?_
        refine rtXN (.inl rfl) Try.results5 rfl rfl (.tmp (Has.t rfl) (.tmp (Has.t rfl) (.tmp (Has.t rfl) .nil))) ?_
        exact own_tup rfl (by rw [if_neg hB]) (by simp [hB])
      · have hc3 := BP.f hc3
        have hB : val ys ≠ 0 := fun e => by rw [e, words_zero] at hc1; simp at hc1
        obtain ⟨k, hk⟩ : ∃ k, k = 64 - bitLen (dig (val ys) ((List.length (words (val ys))) - 1)) := ⟨_, rfl⟩
        have D := dm hB hle hk
        have Dk := D.k64
        have Dv := D.v
        have Dw := D.w
        have Dl := D.le
        refine Tri.skip ?_
        refine At.bln ?_
        refine At.thn (hK3 _ _ ?_); clear hK3
        refine Tri.cv (Cv.wk (.cons (t := 0) (Has.t rfl) (.cons (t := 1) (Has.t rfl) (.cons (t := 4) (Has.t rfl) (.cons (t := 5) (Has.t rfl) (.cons (t := 6) (Has.t rfl) .nil)))))) ?_
        refine Tri.seq fun K11 hK11 => ?_
        refine Tri.region ?_
        refine st (OK1.mv (Has.t rfl)) rfl ?_
        refine st (OK1.mv (Has.t rfl)) rfl ?_
        refine st (OK1.len sl23 (Has.t rfl)) rfl ?_
        refine st (OK1.subI (Has.t rfl) (Has.cI 1 rfl) (by first | with_reducible assumption | omega | (simp only [val_words]; omega)) (by first | with_reducible assumption | omega | (simp only [val_words]; omega))) rfl ?_
        refine st (OK1.ixP sl23 ty28 (Has.t rfl) (Has.t rfl) ⟨by omega, by omega⟩ (getD_some (d := 0) (by first | omega | (simp only [Int.toNat_natCast, List.length_set]; omega)))) rfl ?_
        refine st (OK1.eq (OK1.loadP1 (Has.t rfl) ty28) ((show isU _ = isU (dig (val ys) ((List.length (words (val ys))) - 1)) from isU_eq (getV (by omega))))) rfl ?_
        refine st (OK1.eq (OK1.call (bits_LZ64) (.cons (Has.t rfl) .nil)) ((show isI _ = isI ((k : Nat) : Int) from isI_eq (by rw [hk])))) rfl ?_
        refine st (OK1.as (Has.t rfl)) rfl ?_
        refine nl ?_
        refine At.thn (hK11 _ _ ?_); clear hK11
        refine Tri.cv (Cv.wk (.cons (t := 0) (Has.t rfl) (.cons (t := 1) (Has.t rfl) (.cons (t := 4) (Has.t rfl) (.cons (t := 5) (Has.t rfl) (.cons (t := 6) (Has.t rfl) (.cons (t := 10) (Has.t rfl) .nil))))))) ?_
        refine Tri.seq fun K12 hK12 => ?_
        refine Tri.region ?_
        refine st (OK1.mv (Has.t rfl)) rfl ?_
        refine st (OK1.mv (Has.t rfl)) rfl ?_
        refine st (OK1.eq (OK1.call (nat_Shl (by omega) (by rw [val_words]; omega)) (.cons (Has.t rfl) (.cons (Has.t rfl) .nil))) (by first | (simp only [val_words]; rfl) | rfl)) rfl ?_
        refine st (OK1.mv (Has.t rfl)) rfl ?_
        refine st (OK1.ext (Has.t rfl) rfl) rfl ?_
        refine st (OK1.ext (Has.t rfl) rfl) rfl ?_
        refine st (OK1.as (Has.t rfl)) rfl ?_
        refine st (OK1.as (Has.t rfl)) rfl ?_
        refine nl ?_
        refine At.thn (hK12 _ _ ?_); clear hK12
        refine Tri.cv (Cv.wk (.cons (t := 0) (Has.t rfl) (.cons (t := 4) (Has.t rfl) (.cons (t := 5) (Has.t rfl) (.cons (t := 6) (Has.t rfl) (.cons (t := 10) (Has.t rfl) (.cons (t := 11) (Has.t rfl) .nil))))))) ?_
        refine Tri.seq fun K13 hK13 => ?_
        refine Tri.region ?_
        refine st (OK1.mv (Has.t rfl)) rfl ?_
        refine st (OK1.mv (Has.t rfl)) rfl ?_
        refine st (OK1.eq (OK1.call (nat_Shl (by omega) (by rw [val_words]; omega)) (.cons (Has.t rfl) (.cons (Has.t rfl) .nil))) (by first | (simp only [val_words]; rfl) | rfl)) rfl ?_
        refine st (OK1.mv (Has.t rfl)) rfl ?_
        refine st (OK1.ext (Has.t rfl) rfl) rfl ?_
        refine st (OK1.ext (Has.t rfl) rfl) rfl ?_
        refine st (OK1.as (Has.t rfl)) rfl ?_
        refine st (OK1.as (Has.t rfl)) rfl ?_
        refine nl ?_
        refine At.thn (hK13 _ _ ?_); clear hK13
        refine Tri.cv (Cv.wk (.cons (t := 0) (Has.t rfl) (.cons (t := 4) (Has.t rfl) (.cons (t := 5) (Has.t rfl) (.cons (t := 6) (Has.t rfl) (.cons (t := 10) (Has.t rfl) (.cons (t := 11) (Has.t rfl) (.cons (t := 13) (Has.t rfl) .nil)))))))) ?_
        refine Tri.seq fun K14 hK14 => ?_
        refine Tri.region ?_
        refine st (OK1.mv (Has.t rfl)) rfl ?_
        refine st (OK1.len sl23 (Has.t rfl)) rfl ?_
        refine st (OK1.addI (Has.t rfl) (Has.cI 1 rfl) (by first | with_reducible assumption | omega | (simp only [val_words]; omega)) (by first | with_reducible assumption | omega | (simp only [val_words]; omega))) rfl ?_
        refine Ops.make (f := isU) (u := 0) (n := (List.length (words (val xs))) + 1) (c := (List.length (words (val xs))) + 1) sl23 ty28 zero28 (fun _ _ => ⟨⟨rfl, by decide⟩, trivial⟩) by28 (Has.t' rfl rfl) (Has.t' rfl rfl) ⟨by omega, by omega⟩ rfl fun b1 => ?_
        refine st (OK1.as (Has.t rfl)) rfl ?_
        refine nl ?_
        refine At.thn (hK14 _ _ ?_); clear hK14
        refine Tri.cv (Cv.wk (.cons (t := 4) (Has.t rfl) (.cons (t := 5) (Has.t rfl) (.cons (t := 6) (Has.t rfl) (.cons (t := 10) (Has.t rfl) (.cons (t := 11) (Has.t rfl) (.cons (t := 13) (Has.t rfl) (.cons (t := 15) (Has.t rfl) .nil)))))))) ?_
        refine Tri.seq fun K15 hK15 => ?_
        refine Tri.region ?_
        refine st (OK1.mv (Has.t rfl)) rfl ?_
        refine st (OK1.mv (Has.t rfl)) rfl ?_
        refine Ops.copyW sl23 ty28 (fun _ => inferInstance) (Has.t rfl) (Has.t rfl) (i := 0) rfl ⟨Dw, by simp⟩ rfl (M' := [(some b1, cellM (List.map isU (wordsN ((List.length (words (val xs))) + 1) (val xs * 2 ^ k))))]) (memL_eq (copy_words Dw)) ?_
        refine nl ?_
        refine At.thn (hK15 _ _ ?_); clear hK15
        refine Tri.seq fun K16 hK16 => ?_
        refine Tri.region ?_
        refine st (OK1.mv (Has.t rfl)) rfl ?_
        refine st (OK1.mv (Has.t rfl)) rfl ?_
        refine Ops.callM (div_long (N := val xs * 2 ^ k) (v := val ys * 2 ^ k) (m := (List.length (words (val xs))) + 1) (by omega) (by omega) (by omega) D.lt) (i := 0) rfl (.cons (Has.t rfl) (.cons (Has.t rfl) .nil)) rfl (M' := [(_, _)]) rfl ?_
        refine st (OK1.as (Has.t rfl)) rfl ?_
        refine nl ?_
        refine At.thn (hK16 _ _ ?_); clear hK16
        refine Tri.cv (Cv.wk (.cons (t := 4) (Has.t rfl) (.cons (t := 5) (Has.t rfl) (.cons (t := 6) (Has.t rfl) (.cons (t := 10) (Has.t rfl) (.cons (t := 15) (Has.t rfl) (.cons (t := 16) (Has.t rfl) .nil))))))) ?_
        refine Tri.seq fun K17 hK17 => ?_
        refine Tri.cv (Cv.freeze' (t := 15) (i := 0) (ys := wordsN ((List.length (words (val xs))) + 1) (left (val xs * 2 ^ k) (val ys * 2 ^ k) 0)) rfl rfl rfl (by simp [wordsN_len]) (freeze_all (wordsN_len _ _).symm)) ?_
        refine Tri.memEq (M' := []) rfl ?_
        refine Tri.cv (Cv.wk (.cons (t := 4) (Has.t rfl) (.cons (t := 5) (Has.t rfl) (.cons (t := 6) (Has.t rfl) (.cons (t := 10) (Has.t rfl) (.cons (t := 15) (Has.t rfl) (.cons (t := 16) (Has.t rfl) .nil))))))) ?_
        refine Tri.region ?_
        refine st (OK1.mv (Has.t rfl)) rfl ?_
        refine st (OK1.mv (Has.t rfl)) rfl ?_
        refine Ops.callX (nat_ShrX (by omega) (by have := nw_val_wordsN ((List.length (words (val xs))) + 1) (left (val xs * 2 ^ k) (val ys * 2 ^ k) 0); omega)) (List.Perm.refl _) (.cons (Has.t rfl) (.cons (Has.t rfl) .nil)) rfl ?_
        rintro _ _ ⟨gr, rfl, rfl⟩
        refine Ops.memEq (M' := [grM isU gr _]) rfl ?_
        refine st (OK1.mv (Has.t rfl)) rfl ?_
        refine st (OK1.ext (Has.t rfl) rfl) rfl ?_
        refine st (OK1.ext (Has.t rfl) rfl) rfl ?_
        refine st (OK1.as (Has.t rfl)) rfl ?_
        refine st (OK1.as (Has.t rfl)) rfl ?_
        refine nl ?_
        refine At.thn (hK17 _ _ ?_); clear hK17
        refine Tri.cv (Cv.wk (.cons (t := 4) (Has.t rfl) (.cons (t := 5) (Has.t rfl) (.cons (t := 6) (Has.t rfl) (.cons (t := 16) (Has.t rfl) (.cons (t := 17) (Has.t rfl) .nil)))))) ?_
        refine Tri.seq fun K18 hK18 => ?_
        refine Tri.region ?_
        refine st (OK1.mv (Has.t rfl)) rfl ?_
        refine Ops.callX (nat_NormX (by have := nw_val_wordsN ((List.length (words (val xs))) + 1 - (List.length (words (val ys * 2 ^ k)))) (val xs * 2 ^ k / (val ys * 2 ^ k)); omega)) (List.Perm.refl _) (.cons (Has.t rfl) .nil) rfl ?_
        rintro _ _ ⟨gq, rfl, rfl⟩
        refine Ops.memEq (M' := [grM isU gq _, grM isU gr _]) rfl ?_
        refine st (OK1.mv (Has.t rfl)) rfl ?_
        refine st (OK1.as (Has.t rfl)) rfl ?_
        refine st (OK1.as (Has.t rfl)) rfl ?_
        refine st (OK1.as (Has.cB true)) rfl ?_
        refine nl ?_
        refine At.thn (hK18 _ _ ?_); clear hK18
        refine Tri.cv (Cv.wk (.cons (t := 4) (Has.t rfl) (.cons (t := 5) (Has.t rfl) (.cons (t := 6) (Has.t rfl) .nil)))) ?_
        refine Tri.ret ?_
        refine rtXN (.inl rfl) Try.results5 rfl rfl (.tmp (Has.t rfl) (.tmp (Has.t rfl) (.tmp (Has.t rfl) .nil))) ?_
        exact own_tup (dm_quo hB D rfl rfl) (by rw [if_neg hB, dm_rest hB D rfl]) (by simp [hB])
set_option maxHeartbeats 4000000 in
theorem div_ModX {xs ys : List Nat} (hx : (List.length (words (val xs))) < 4294800000) (hy : (List.length (words (val ys))) < 4294800000) : CtrX Try.prog 16 [isWords xs, isWords ys] ([]) (fun S M => ∃ g : Gr Nat, S = isTup [isOwn g ((List.length (words (if val ys = 0 then 0 else val xs % val ys)))), isB (decide (val ys ≠ 0))] ∧ M = [grM isU g (words (if val ys = 0 then 0 else val xs % val ys))]) := by
  refine CtrX.intro Try.func16 rfl (by kernel_rfl) Try.ntmps16 rfl fun w0 F0 => ?_
  refine Tri.cv (Cv.wk (.cons (t := 0) (Has.t rfl) (.cons (t := 1) (Has.t rfl) .nil))) ?_
  refine Tri.fact (Has.lenLt (Has.t (t := 0) rfl)) fun lt0 => ?_
  refine Tri.fact (Has.okW (Has.t (t := 0) rfl)) fun ok0 => ?_
  refine Tri.fact (Has.lenLt (Has.t (t := 1) rfl)) fun lt1 => ?_
  refine Tri.fact (Has.okW (Has.t (t := 1) rfl)) fun ok1 => ?_
  refine Tri.seq fun K1 hK1 => ?_
  refine Tri.region ?_
  refine st (OK1.as (Has.cW (f := isU))) rfl ?_
  refine st (OK1.as (Has.cB false)) rfl ?_
  refine nl ?_
  refine At.thn (hK1 _ _ ?_); clear hK1
  refine Tri.seq fun K2 hK2 => ?_
  refine Tri.region ?_
  refine st (OK1.mv (Has.t rfl)) rfl ?_
  refine st (OK1.mv (Has.t rfl)) rfl ?_
  refine Ops.callX (div_DivModX hx hy) (List.Perm.refl _) (.cons (Has.t rfl) (.cons (Has.t rfl) .nil)) rfl ?_
  rintro _ _ ⟨gq, gr, rfl, rfl⟩
  refine Ops.memEq (M' := [grM isU gq _, grM isU gr _]) rfl ?_
  refine st (OK1.mv (Has.t rfl)) rfl ?_
  refine st (OK1.ext (Has.t rfl) rfl) rfl ?_
  refine st (OK1.ext (Has.t rfl) rfl) rfl ?_
  refine st (OK1.ext (Has.t rfl) rfl) rfl ?_
  refine st (OK1.as (Has.t rfl)) rfl ?_
  refine st (OK1.as (Has.t rfl)) rfl ?_
  refine st (OK1.as (Has.t rfl)) rfl ?_
  refine nl ?_
  refine At.thn (hK2 _ _ ?_); clear hK2
  refine Tri.cv (Cv.wk (.cons (t := 4) (Has.t rfl) (.cons (t := 5) (Has.t rfl) (.cons (t := 7) (Has.t rfl) (.cons (t := 8) (Has.t rfl) .nil))))) ?_
  refine Tri.seq fun K3 hK3 => ?_
  refine Tri.region ?_
  refine st (OK1.mv (Has.t rfl)) rfl ?_
  refine st (OK1.mv (Has.t rfl)) rfl ?_
  refine st (OK1.as (Has.t rfl)) rfl ?_
  refine st (OK1.as (Has.t rfl)) rfl ?_
  refine nl ?_
  refine At.thn (hK3 _ _ ?_); clear hK3
  refine Tri.ret ?_
  refine rtXND (.cons _ (.cons_cons _ .slnil)) (.inl rfl) Try.results16 rfl rfl (.tmp (Has.t rfl) (.tmp (Has.t rfl) .nil)) ?_
  exact ⟨gr, rfl, rfl⟩
theorem div_ModXw {A B : Nat} (hx : (List.length (words A)) < 4294800000) (hy : (List.length (words B)) < 4294800000) (hB : B ≠ 0) : CtrX Try.prog 16 [isWords (words A), isWords (words B)] [] (fun S M => ∃ g : Gr Nat, S = isTup [isOwn g ((List.length (words (A % B)))), isB true] ∧ M = [grM isU g (words (A % B))]) := by
  have h := div_ModX (xs := words A) (ys := words B) (by rw [val_words]; omega) (by rw [val_words]; omega)
  rw [val_words, val_words, if_neg hB, decide_eq_true hB] at h
  exact h
set_option maxHeartbeats 4000000 in
theorem div_GcdX {xs ys : List Nat} (hx : (List.length (words (val xs))) < 4294800000) (hy : (List.length (words (val ys))) < 4294800000) : CtrX Try.prog 6 [isWords xs, isWords ys] ([]) (fun S M => ∃ g : Gr Nat, S = isOwn g ((List.length (words (Nat.gcd (val xs) (val ys))))) ∧ M = [grM isU g (words (Nat.gcd (val xs) (val ys)))]) := by
  refine CtrX.intro Try.func6 rfl (by kernel_rfl) Try.ntmps6 rfl fun w0 F0 => ?_
  refine Tri.cv (Cv.wk (.cons (t := 0) (Has.t rfl) (.cons (t := 1) (Has.t rfl) .nil))) ?_
  refine Tri.fact (Has.lenLt (Has.t (t := 0) rfl)) fun lt0 => ?_
  refine Tri.fact (Has.okW (Has.t (t := 0) rfl)) fun ok0 => ?_
  refine Tri.fact (Has.lenLt (Has.t (t := 1) rfl)) fun lt1 => ?_
  refine Tri.fact (Has.okW (Has.t (t := 1) rfl)) fun ok1 => ?_
  refine Tri.seq fun K1 hK1 => ?_
  refine Tri.region ?_
  refine st (OK1.as (Has.cW (f := isU))) rfl ?_
  refine nl ?_
  refine At.thn (hK1 _ _ ?_); clear hK1
  refine Tri.seq fun K2 hK2 => ?_
  refine Tri.region ?_
  refine st (OK1.mv (Has.t rfl)) rfl ?_
  refine Ops.callXB (nat_NormX (by omega)) (.cons (HasB.of (Has.t rfl)) .nil) rfl (by rintro _ _ ⟨_, rfl, rfl⟩; exact ⟨inferInstance, .words .nil⟩) ?_
  rintro _ _ ⟨gA, rfl, rfl⟩
  refine st (OK1.mv (Has.t rfl)) rfl ?_
  refine Ops.callXB (nat_NormX (by omega)) (.cons (HasB.of (Has.t rfl)) .nil) rfl (by rintro _ _ ⟨_, rfl, rfl⟩; exact ⟨inferInstance, .words .nil⟩) ?_
  rintro _ _ ⟨gB, rfl, rfl⟩
  refine st (OK1.as (Has.t rfl)) rfl ?_
  refine st (OK1.as (Has.t rfl)) rfl ?_
  refine nl ?_
  refine At.thn (hK2 _ _ ?_); clear hK2
  refine Tri.seq fun K3 hK3 => ?_
  refine Tri.block ?_
  refine Tri.loopF [4] (fun (z : { z : (Nat × Nat) × Gr Nat × Gr Nat // Nat.gcd z.1.1 z.1.2 = Nat.gcd (val xs) (val ys) ∧ (List.length (words z.1.1)) < 4294800000 ∧ (List.length (words z.1.2)) < 4294800000 }) => match z with | ⟨((p, q), ga, gb), hI⟩ => [(0, isOwn ga ((List.length (words p)))), (1, isOwn gb ((List.length (words q))))]) (fun M => fun (z : { z : (Nat × Nat) × Gr Nat × Gr Nat // Nat.gcd z.1.1 z.1.2 = Nat.gcd (val xs) (val ys) ∧ (List.length (words z.1.1)) < 4294800000 ∧ (List.length (words z.1.2)) < 4294800000 }) => match z with | ⟨((p, q), ga, gb), hI⟩ => [grM isU gb (words q), grM isU ga (words p)]) (fun (z : { z : (Nat × Nat) × Gr Nat × Gr Nat // Nat.gcd z.1.1 z.1.2 = Nat.gcd (val xs) (val ys) ∧ (List.length (words z.1.1)) < 4294800000 ∧ (List.length (words z.1.2)) < 4294800000 }) => match z with | ⟨((p, q), ga, gb), hI⟩ => q) (⟨((val xs, val ys), gA, gB), rfl, hx, hy⟩) (Cv.mem (.cons (t := 0) (Has.t' rfl ?_) (.cons (t := 1) (Has.t' rfl ?_) (.cons (t := 4) (Has.t rfl) .nil))) ?_) ?_
  · rfl
  · rfl
  · rfl
  rintro ⟨⟨⟨p, q⟩, ga, gb⟩, hI⟩ K4 hK4
  refine Tri.cv (Cv.wk (.cons (t := 0) (Has.t rfl) (.cons (t := 1) (Has.t rfl) (.cons (t := 4) (Has.t rfl) .nil)))) ?_
  refine Tri.memEq (M' := [grM isU gb (words q), grM isU ga (words p)]) rfl ?_
  simp only [] at hI
  obtain ⟨g1, g2, g3⟩ := hI
  refine Tri.seq fun K5 hK5 => ?_
  refine Tri.seq fun K6 hK6 => ?_
  refine Tri.region ?_
  refine st (OK1.mv (Has.t rfl)) rfl ?_
  refine st (OK1.len sl23 (Has.t rfl)) rfl ?_
  refine st (OK1.gtI (Has.t rfl) (Has.cI 0 rfl)) rfl ?_
  refine nl ?_
  refine At.thn (hK6 _ _ ?_); clear hK6
  refine Tri.cond (Has.t rfl) (fun hc1 => ?_) (fun hc1 => ?_)
  · have hc1 := BP.t hc1
    refine Tri.skip ?_
    refine At.thn (hK5 _ _ ?_); clear hK5
    refine Tri.block ?_
    refine Tri.seq fun K7 hK7 => ?_
    have hq : q ≠ 0 := fun e => by rw [e, words_zero] at hc1; simp at hc1
    refine Tri.region ?_
    refine st (OK1.mv (Has.t rfl)) rfl ?_
    refine st (OK1.mv (Has.t rfl)) rfl ?_
    refine Ops.callXB (div_ModXw g2 g3 hq) (.cons (HasB.own (Has.t rfl) (i := 1) rfl rfl) (.cons (HasB.own (Has.t rfl) (i := 0) rfl rfl) .nil)) rfl (by rintro _ _ ⟨_, rfl, rfl⟩; exact ⟨pure_tup, .words .nil⟩) ?_
    rintro _ _ ⟨gr, rfl, rfl⟩
    refine Ops.memEq (M' := [grM isU gr _, grM isU gb _, grM isU ga _]) rfl ?_
    refine st (OK1.mv (Has.t rfl)) rfl ?_
    refine st (OK1.ext (Has.t rfl) rfl) rfl ?_
    refine st (OK1.ext (Has.t rfl) rfl) rfl ?_
    refine st (OK1.as (Has.t rfl)) rfl ?_
    refine st (OK1.as (Has.t rfl)) rfl ?_
    refine nl ?_
    refine At.thn (hK7 _ _ ?_); clear hK7
    refine Tri.region ?_
    refine st (OK1.mv (Has.t rfl)) rfl ?_
    refine st (OK1.mv (Has.t rfl)) rfl ?_
    refine st (OK1.as (Has.t rfl)) rfl ?_
    refine st (OK1.as (Has.t rfl)) rfl ?_
    refine nl ?_
    refine At.bln ?_
    refine At.thn ?_
    refine hK4 (⟨((q, p % q), gb, gr), gcd_step g1, g3, Nat.lt_of_le_of_lt (nw_mono (Nat.le_of_lt (Nat.mod_lt _ (by omega)))) g3⟩) _ _ ?_ (Cv.trans (Cv.drop (.cons_cons _ (.cons_cons _ (.cons _ .slnil)))) (Cv.mem (.cons (t := 0) (Has.t' rfl ?_) (.cons (t := 1) (Has.t' rfl ?_) (.cons (t := 4) (Has.t rfl) .nil))) ?_))
    · show p % q < q; exact Nat.mod_lt _ (by omega)
    · rfl
    · rfl
    · rfl
  · have hc1 := BP.f hc1
    refine Tri.exit ?_
    refine At.the ?_
    refine At.the ?_
    refine At.blh ?_
    refine At.thn (hK3 _ _ ?_); clear hK3
    refine Tri.seq fun K8 hK8 => ?_
    refine Tri.region ?_
    refine st (OK1.mv (Has.t rfl)) rfl ?_
    refine st (OK1.as (Has.t rfl)) rfl ?_
    refine nl ?_
    refine At.thn (hK8 _ _ ?_); clear hK8
    refine Tri.cv (Cv.wk (.cons (t := 4) (Has.t rfl) .nil)) ?_
    refine Tri.ret ?_
    refine rtX1D (.cons _ (.cons_cons _ .slnil)) (.inl rfl) Try.results6 rfl (.tmp (Has.t rfl) .nil) ?_
    obtain rfl : q = 0 := bits_zero (by omega)
    rw [Nat.gcd_zero_right] at g1
    subst g1
    exact ⟨ga, rfl, rfl⟩
end Go.Proofs.Ytlonhlafnimcmaa
/- A law of layer 3 on what is handed in, as a contract. -/
namespace Go.Proofs.Ytlonhlafnimcmaa
open Go.En Go.RowKit
set_option linter.unusedVariables false
set_option maxRecDepth 10000
open Go.Nt
theorem mod_if (a b : Nat) : (if b = 0 then 0 else a % b) ≤ a := by
  split
  · exact Nat.zero_le _
  · exact Nat.mod_le _ _
set_option maxHeartbeats 4000000 in
theorem c_DivOwn (xs ys : List Nat) : Ctr Try.prog 3 [isWords xs, isWords ys] (isB true) := by
  refine Ctr.intro Try.func3 rfl (by kernel_rfl) Try.ntmps3 rfl fun w0 F0 => ?_
  refine Tri.cv (Cv.wk (.cons (t := 0) (Has.t rfl) (.cons (t := 1) (Has.t rfl) .nil))) ?_
  refine Tri.fact (Has.lenLt (Has.t (t := 0) rfl)) fun lt0 => ?_
  refine Tri.fact (Has.okW (Has.t (t := 0) rfl)) fun ok0 => ?_
  refine Tri.fact (Has.lenLt (Has.t (t := 1) rfl)) fun lt1 => ?_
  refine Tri.fact (Has.okW (Has.t (t := 1) rfl)) fun ok1 => ?_
  have n0 : (List.length (words (val xs))) ≤ xs.length := nw_val ok0
  have n1 : (List.length (words (val ys))) ≤ ys.length := nw_val ok1
  refine Tri.seq fun K1 hK1 => ?_
  refine Tri.region ?_
  refine st (OK1.as (Has.cB false)) rfl ?_
  refine nl ?_
  refine At.thn (hK1 _ _ ?_); clear hK1
  refine Tri.seq fun K2 hK2 => ?_
  refine Tri.seq fun K3 hK3 => ?_
  refine Tri.region ?_
  refine st (OK1.call (law03_awake) .nil) rfl ?_
  refine st (OK1.not (Has.t rfl)) rfl ?_
  refine st (OK1.mv (Has.t rfl)) rfl ?_
  refine stF rfl rfl (fun hg => have hg' := BP.t hg; OK1.mv (Has.t rfl)) rfl ?_
  refine stF rfl rfl (fun hg => have hg' := BP.t hg; OK1.len sl23 (Has.g rfl hg)) rfl ?_
  refine stF rfl rfl (fun hg => have hg' := BP.t hg; OK1.gtI (Has.g rfl hg) (Has.cI 10 rfl)) rfl ?_
  refine st (OK1.pickOr (Has.t rfl) (fun h => Has.g rfl (ng h))) rfl ?_
  refine st (OK1.mv (Has.t rfl)) rfl ?_
  refine stF rfl rfl (fun hg => have hg' := BP.t hg; OK1.mv (Has.t rfl)) rfl ?_
  refine stF rfl rfl (fun hg => have hg' := BP.t hg; OK1.len sl23 (Has.g rfl hg)) rfl ?_
  refine stF rfl rfl (fun hg => have hg' := BP.t hg; OK1.gtI (Has.g rfl hg) (Has.cI 10 rfl)) rfl ?_
  refine st (OK1.pickOr (Has.t rfl) (fun h => Has.g rfl (ng h))) rfl ?_
  refine nl ?_
  refine At.thn (hK3 _ _ ?_); clear hK3
  refine Tri.cv (Cv.wk (.cons (t := 0) (Has.t rfl) (.cons (t := 1) (Has.t rfl) (.cons (t := 4) (Has.t rfl) (.cons (t := 29) (Has.t rfl) .nil))))) ?_
  refine Tri.cond (Has.t rfl) (fun hc1 => ?_) (fun hc1 => ?_)
  · have hc1 := BP.t hc1
    refine Tri.seq fun K4 hK4 => ?_
    refine Tri.region ?_
    refine st (OK1.call (law03_awake) .nil) rfl ?_
    refine st (OK1.as (Has.t rfl)) rfl ?_
    refine nl ?_
    refine At.thn (hK4 _ _ ?_); clear hK4
    refine Tri.ret ?_
    refine At.thr ?_
    refine rt1 (.inl rfl) Try.results3 rfl (.tmp (Has.t' rfl ?_) .nil)
    all_goals (rfl)
  · have hc1 := BP.f hc1
    skip
    refine Tri.skip ?_
    refine At.thn (hK2 _ _ ?_); clear hK2
    refine Tri.seq fun K5 hK5 => ?_
    refine Tri.region ?_
    refine Ops.cv (Cv.grow0 (α := Nat) isU) ?_
    refine st (OK1.as (Has.cGr (α := Nat))) rfl ?_
    refine Ops.cv (Cv.grow0 (α := Nat) isU) ?_
    refine st (OK1.as (Has.cGr (α := Nat))) rfl ?_
    refine nl ?_
    refine At.thn (hK5 _ _ ?_); clear hK5
    refine Tri.seq fun K6 hK6 => ?_
    refine Tri.region ?_
    refine st (OK1.mv (Has.t rfl)) rfl ?_
    refine st (OK1.mv (Has.t rfl)) rfl ?_
    refine Ops.appendG0 (f := isU) (u := 0) sl23 ty28 zero28 (fun _ _ => ⟨⟨rfl, by decide⟩, trivial⟩) (fun _ => inferInstance) by28 (Has.t rfl) (i := 1) rfl (Has.t rfl) (by simp only [List.length_nil]; omega) rfl fun gr1 => ?_
    refine Ops.memEq (M' := [_, grM _ _ _]) rfl ?_
    refine st (OK1.as (Has.t rfl)) rfl ?_
    refine nl ?_
    refine At.thn (hK6 _ _ ?_); clear hK6
    refine Tri.seq fun K7 hK7 => ?_
    refine Tri.region ?_
    refine st (OK1.mv (Has.t rfl)) rfl ?_
    refine st (OK1.mv (Has.t rfl)) rfl ?_
    refine Ops.appendG0 (f := isU) (u := 0) sl23 ty28 zero28 (fun _ _ => ⟨⟨rfl, by decide⟩, trivial⟩) (fun _ => inferInstance) by28 (Has.t rfl) (i := 0) rfl (Has.t rfl) (by simp only [List.length_nil]; omega) rfl fun gr1 => ?_
    refine Ops.memEq (M' := [grM _ _ _, _]) rfl ?_
    refine st (OK1.as (Has.t rfl)) rfl ?_
    refine nl ?_
    refine At.thn (hK7 _ _ ?_); clear hK7
    refine Tri.cv (Cv.wk (.cons (t := 0) (Has.t rfl) (.cons (t := 1) (Has.t rfl) (.cons (t := 4) (Has.t rfl) (.cons (t := 5) (Has.t rfl) (.cons (t := 6) (Has.t rfl) .nil)))))) ?_
    refine Tri.seq fun K8 hK8 => ?_
    refine Tri.cv (Cv.freezeG (t := 5) (i := 1) (ys := xs) rfl rfl rfl) ?_
    refine Tri.memEq (M' := [_]) rfl ?_
    refine Tri.cv (Cv.wk (.cons (t := 0) (Has.t rfl) (.cons (t := 1) (Has.t rfl) (.cons (t := 4) (Has.t rfl) (.cons (t := 5) (Has.t rfl) (.cons (t := 6) (Has.t rfl) .nil)))))) ?_
    refine Tri.cv (Cv.freezeG (t := 6) (i := 0) (ys := ys) rfl rfl rfl) ?_
    refine Tri.memEq (M' := []) rfl ?_
    refine Tri.cv (Cv.wk (.cons (t := 0) (Has.t rfl) (.cons (t := 1) (Has.t rfl) (.cons (t := 4) (Has.t rfl) (.cons (t := 5) (Has.t rfl) (.cons (t := 6) (Has.t rfl) .nil)))))) ?_
    refine Tri.region ?_
    refine st (OK1.mv (Has.t rfl)) rfl ?_
    refine st (OK1.mv (Has.t rfl)) rfl ?_
    refine Ops.callX (div_DivModX (by omega) (by omega)) (List.Perm.refl _) (.cons (Has.t rfl) (.cons (Has.t rfl) .nil)) rfl ?_
    rintro _ _ ⟨gq, gr, rfl, rfl⟩
    generalize hQ : words (val xs / val ys) = Q
    have hQl : Q.length ≤ 10 := by rw [← hQ]; exact Nat.le_trans (nw_mono (Nat.div_le_self _ _)) (by omega)
    generalize hR : words (if val ys = 0 then 0 else val xs % val ys) = R
    have hRl : R.length ≤ 10 := by rw [← hR]; exact Nat.le_trans (nw_mono (mod_if _ _)) (by omega)
    refine Ops.memEq (M' := [grM isU gq Q, grM isU gr R]) rfl ?_
    refine st (OK1.mv (Has.t rfl)) rfl ?_
    refine st (OK1.ext (Has.t rfl) rfl) rfl ?_
    refine st (OK1.ext (Has.t rfl) rfl) rfl ?_
    refine st (OK1.ext (Has.t rfl) rfl) rfl ?_
    refine st (OK1.as (Has.t rfl)) rfl ?_
    refine st (OK1.as (Has.t rfl)) rfl ?_
    refine st (OK1.as (Has.t rfl)) rfl ?_
    refine nl ?_
    refine At.thn (hK8 _ _ ?_); clear hK8
    refine Tri.cv (Cv.wk (.cons (t := 0) (Has.t rfl) (.cons (t := 1) (Has.t rfl) (.cons (t := 4) (Has.t rfl) (.cons (t := 5) (Has.t rfl) (.cons (t := 6) (Has.t rfl) (.cons (t := 7) (Has.t rfl) (.cons (t := 8) (Has.t rfl) .nil)))))))) ?_
    refine Tri.seq fun K9 hK9 => ?_
    refine Tri.region ?_
    refine st (OK1.mv (Has.t rfl)) rfl ?_
    refine st (OK1.mv (Has.t rfl)) rfl ?_
    refine Ops.callX (div_GcdX (by omega) (by omega)) (List.Perm.refl _) (.cons (Has.t rfl) (.cons (Has.t rfl) .nil)) rfl ?_
    rintro _ _ ⟨gg, rfl, rfl⟩
    generalize hG : words (Nat.gcd (val xs) (val ys)) = G
    have hGl : G.length ≤ 10 := by rw [← hG]; have := nw_mono (gcd_le_max (val xs) (val ys)); have := nw_max (val xs) (val ys); omega
    refine Ops.memEq (M' := [grM isU gg G, grM isU gq Q, grM isU gr R]) rfl ?_
    refine st (OK1.as (Has.t rfl)) rfl ?_
    refine nl ?_
    refine At.thn (hK9 _ _ ?_); clear hK9
    refine Tri.seq fun K10 hK10 => ?_
    refine Tri.region ?_
    refine st (OK1.mv (Has.t rfl)) rfl ?_
    refine Ops.callX (div_SmallX (x := 3) (by omega) (by decide)) (List.Perm.refl _) (.cons (Has.t rfl) (.cons (Has.cU 3 rfl) .nil)) rfl ?_
    rintro _ _ ⟨gs, rfl, rfl⟩
    generalize hZ : words (val xs / 3) = Z
    have hZl : Z.length ≤ 10 := by rw [← hZ]; exact Nat.le_trans (nw_mono (Nat.div_le_self _ _)) (by omega)
    refine Ops.memEq (M' := [grM isU gs Z, grM isU gg G, grM isU gq Q, grM isU gr R]) rfl ?_
    refine st (OK1.mv (Has.t rfl)) rfl ?_
    refine st (OK1.ext (Has.t rfl) rfl) rfl ?_
    refine st (OK1.ext (Has.t rfl) rfl) rfl ?_
    refine st (OK1.ext (Has.t rfl) rfl) rfl ?_
    refine st (OK1.as (Has.t rfl)) rfl ?_
    refine st (OK1.as (Has.t rfl)) rfl ?_
    refine st (OK1.as (Has.t rfl)) rfl ?_
    refine nl ?_
    refine At.thn (hK10 _ _ ?_); clear hK10
    refine Tri.cv (Cv.wk (.cons (t := 0) (Has.t rfl) (.cons (t := 1) (Has.t rfl) (.cons (t := 4) (Has.t rfl) (.cons (t := 5) (Has.t rfl) (.cons (t := 6) (Has.t rfl) (.cons (t := 7) (Has.t rfl) (.cons (t := 8) (Has.t rfl) (.cons (t := 10) (Has.t rfl) (.cons (t := 11) (Has.t rfl) .nil)))))))))) ?_
    refine Tri.seq fun K11 hK11 => ?_
    refine Tri.seq fun K12 hK12 => ?_
    refine Tri.region ?_
    refine st (OK1.as (Has.cI 0 rfl)) rfl ?_
    refine nl ?_
    refine At.thn (hK12 _ _ ?_); clear hK12
    refine Tri.block ?_
    refine Tri.loopF [0, 1, 4, 5, 6, 7, 8, 10, 11] (fun (z : { z : Nat × List Nat // z.2.length = Q.length }) => match z with | ⟨(i, zQ), hI⟩ => [(14, isI (i : Int))]) (fun M => fun (z : { z : Nat × List Nat // z.2.length = Q.length }) => match z with | ⟨(i, zQ), hI⟩ => [grM isU gs Z, grM isU gg G, grM isU gq zQ, grM isU gr R]) (fun (z : { z : Nat × List Nat // z.2.length = Q.length }) => match z with | ⟨(i, zQ), hI⟩ => Q.length - i) (⟨(0, Q), rfl⟩) (Cv.mem (.cons (t := 14) (Has.t' rfl ?_) (.cons (t := 0) (Has.t rfl) (.cons (t := 1) (Has.t rfl) (.cons (t := 4) (Has.t rfl) (.cons (t := 5) (Has.t rfl) (.cons (t := 6) (Has.t rfl) (.cons (t := 7) (Has.t rfl) (.cons (t := 8) (Has.t rfl) (.cons (t := 10) (Has.t rfl) (.cons (t := 11) (Has.t rfl) .nil)))))))))) ?_) ?_
    · rfl
    · rfl
    rintro ⟨⟨i, zQ⟩, hzQ⟩ K13 hK13
    refine Tri.cv (Cv.wk (.cons (t := 14) (Has.t rfl) (.cons (t := 0) (Has.t rfl) (.cons (t := 1) (Has.t rfl) (.cons (t := 4) (Has.t rfl) (.cons (t := 5) (Has.t rfl) (.cons (t := 6) (Has.t rfl) (.cons (t := 7) (Has.t rfl) (.cons (t := 8) (Has.t rfl) (.cons (t := 10) (Has.t rfl) (.cons (t := 11) (Has.t rfl) .nil))))))))))) ?_
    refine Tri.memEq (M' := [grM isU gs Z, grM isU gg G, grM isU gq zQ, grM isU gr R]) rfl ?_
    simp only [] at hzQ
    refine Tri.seq fun K14 hK14 => ?_
    refine Tri.seq fun K15 hK15 => ?_
    refine Tri.region ?_
    refine st (OK1.mv (Has.t rfl)) rfl ?_
    refine st (OK1.mv (Has.t rfl)) rfl ?_
    refine st (OK1.len sl23 (Has.t rfl)) rfl ?_
    refine st (OK1.ltI (Has.t rfl) (Has.t rfl)) rfl ?_
    refine nl ?_
    refine At.thn (hK15 _ _ ?_); clear hK15
    refine Tri.cond (Has.t rfl) (fun hc2 => ?_) (fun hc2 => ?_)
    · have hc2 := BP.t hc2
      refine Tri.skip ?_
      refine At.thn (hK14 _ _ ?_); clear hK14
      refine Tri.seq fun K16 hK16 => ?_
      refine Tri.block ?_
      refine Tri.region ?_
      refine st (OK1.mv (Has.t rfl)) rfl ?_
      refine st (OK1.mv (Has.t rfl)) rfl ?_
      refine st (OK1.ixOn sl23 ty28 (Has.t rfl) (Has.t rfl) ⟨by omega, by omega⟩) rfl ?_
      refine st (OK1.loadGM (Has.t rfl) (i := 2) rfl ty28 (getD_some (d := 0) (by simp only [Int.toNat_natCast]; omega))) rfl ?_
      refine st (OK1.addU (Has.t rfl) (Has.cU 1 rfl)) rfl ?_
      refine st (OK1.ixOn sl23 ty28 (Has.t rfl) (Has.t rfl) ⟨by omega, by omega⟩) rfl ?_
      refine Ops.storeGM (Has.t rfl) (Has.t rfl) (i := 2) rfl ty28 (by simp only [Int.toNat_natCast]; omega) (M' := [_, _, grM _ _ _, _]) rfl ?_
      refine nl ?_
      refine At.bln ?_
      refine At.thn (hK16 _ _ ?_); clear hK16
      refine Tri.region ?_
      refine st (OK1.mv (Has.t rfl)) rfl ?_
      refine st (OK1.addI (Has.t rfl) (Has.cI 1 rfl) (by first | with_reducible assumption | omega) (by first | with_reducible assumption | omega)) rfl ?_
      refine st (OK1.as (Has.t rfl)) rfl ?_
      refine nl ?_
      refine At.thn ?_
      refine hK13 (⟨(i + 1, zQ.set (i : Int).toNat ((zQ.getD (i : Int).toNat 0 + 1) % 18446744073709551616)), by show (List.set _ _ _).length = _; rw [List.length_set]; exact hzQ⟩) _ _ ?_ (Cv.mem (.cons (t := 14) (Has.t' rfl ?_) (.cons (t := 0) (Has.t rfl) (.cons (t := 1) (Has.t rfl) (.cons (t := 4) (Has.t rfl) (.cons (t := 5) (Has.t rfl) (.cons (t := 6) (Has.t rfl) (.cons (t := 7) (Has.t rfl) (.cons (t := 8) (Has.t rfl) (.cons (t := 10) (Has.t rfl) (.cons (t := 11) (Has.t rfl) .nil)))))))))) ?_)
      · show Q.length - (i + 1) < Q.length - i; omega
      · exact isI_eq (by omega)
      · rfl
    · have hc2 := BP.f hc2
      refine Tri.exit ?_
      refine At.the ?_
      refine At.the ?_
      refine At.blh ?_
      refine At.thn (hK11 _ _ ?_); clear hK11
      refine Tri.cv (Cv.wk (.cons (t := 0) (Has.t rfl) (.cons (t := 1) (Has.t rfl) (.cons (t := 4) (Has.t rfl) (.cons (t := 5) (Has.t rfl) (.cons (t := 6) (Has.t rfl) (.cons (t := 8) (Has.t rfl) (.cons (t := 10) (Has.t rfl) (.cons (t := 11) (Has.t rfl) .nil))))))))) ?_
      refine Tri.seq fun K17 hK17 => ?_
      refine Tri.seq fun K18 hK18 => ?_
      refine Tri.region ?_
      refine st (OK1.as (Has.cI 0 rfl)) rfl ?_
      refine nl ?_
      refine At.thn (hK18 _ _ ?_); clear hK18
      refine Tri.block ?_
      refine Tri.loopF [0, 1, 4, 5, 6, 8, 10, 11] (fun (z : { z : Nat × List Nat // z.2.length = R.length }) => match z with | ⟨(i, zR), hI⟩ => [(15, isI (i : Int))]) (fun M => fun (z : { z : Nat × List Nat // z.2.length = R.length }) => match z with | ⟨(i, zR), hI⟩ => [grM isU gs Z, grM isU gg G, grM isU gq zQ, grM isU gr zR]) (fun (z : { z : Nat × List Nat // z.2.length = R.length }) => match z with | ⟨(i, zR), hI⟩ => R.length - i) (⟨(0, R), rfl⟩) (Cv.mem (.cons (t := 15) (Has.t' rfl ?_) (.cons (t := 0) (Has.t rfl) (.cons (t := 1) (Has.t rfl) (.cons (t := 4) (Has.t rfl) (.cons (t := 5) (Has.t rfl) (.cons (t := 6) (Has.t rfl) (.cons (t := 8) (Has.t rfl) (.cons (t := 10) (Has.t rfl) (.cons (t := 11) (Has.t rfl) .nil))))))))) ?_) ?_
      · rfl
      · rfl
      rintro ⟨⟨i, zR⟩, hzR⟩ K19 hK19
      refine Tri.cv (Cv.wk (.cons (t := 15) (Has.t rfl) (.cons (t := 0) (Has.t rfl) (.cons (t := 1) (Has.t rfl) (.cons (t := 4) (Has.t rfl) (.cons (t := 5) (Has.t rfl) (.cons (t := 6) (Has.t rfl) (.cons (t := 8) (Has.t rfl) (.cons (t := 10) (Has.t rfl) (.cons (t := 11) (Has.t rfl) .nil)))))))))) ?_
      refine Tri.memEq (M' := [grM isU gs Z, grM isU gg G, grM isU gq zQ, grM isU gr zR]) rfl ?_
      simp only [] at hzR
      refine Tri.seq fun K20 hK20 => ?_
      refine Tri.seq fun K21 hK21 => ?_
      refine Tri.region ?_
      refine st (OK1.mv (Has.t rfl)) rfl ?_
      refine st (OK1.mv (Has.t rfl)) rfl ?_
      refine st (OK1.len sl23 (Has.t rfl)) rfl ?_
      refine st (OK1.ltI (Has.t rfl) (Has.t rfl)) rfl ?_
      refine nl ?_
      refine At.thn (hK21 _ _ ?_); clear hK21
      refine Tri.cond (Has.t rfl) (fun hc3 => ?_) (fun hc3 => ?_)
      · have hc3 := BP.t hc3
        refine Tri.skip ?_
        refine At.thn (hK20 _ _ ?_); clear hK20
        refine Tri.seq fun K22 hK22 => ?_
        refine Tri.block ?_
        refine Tri.region ?_
        refine st (OK1.mv (Has.t rfl)) rfl ?_
        refine st (OK1.mv (Has.t rfl)) rfl ?_
        refine st (OK1.ixOn sl23 ty28 (Has.t rfl) (Has.t rfl) ⟨by omega, by omega⟩) rfl ?_
        refine st (OK1.loadGM (Has.t rfl) (i := 3) rfl ty28 (getD_some (d := 0) (by simp only [Int.toNat_natCast]; omega))) rfl ?_
        refine st (OK1.addU (Has.t rfl) (Has.cU 1 rfl)) rfl ?_
        refine st (OK1.ixOn sl23 ty28 (Has.t rfl) (Has.t rfl) ⟨by omega, by omega⟩) rfl ?_
        refine Ops.storeGM (Has.t rfl) (Has.t rfl) (i := 3) rfl ty28 (by simp only [Int.toNat_natCast]; omega) (M' := [_, _, _, grM _ _ _]) rfl ?_
        refine nl ?_
        refine At.bln ?_
        refine At.thn (hK22 _ _ ?_); clear hK22
        refine Tri.region ?_
        refine st (OK1.mv (Has.t rfl)) rfl ?_
        refine st (OK1.addI (Has.t rfl) (Has.cI 1 rfl) (by first | with_reducible assumption | omega) (by first | with_reducible assumption | omega)) rfl ?_
        refine st (OK1.as (Has.t rfl)) rfl ?_
        refine nl ?_
        refine At.thn ?_
        refine hK19 (⟨(i + 1, zR.set (i : Int).toNat ((zR.getD (i : Int).toNat 0 + 1) % 18446744073709551616)), by show (List.set _ _ _).length = _; rw [List.length_set]; exact hzR⟩) _ _ ?_ (Cv.mem (.cons (t := 15) (Has.t' rfl ?_) (.cons (t := 0) (Has.t rfl) (.cons (t := 1) (Has.t rfl) (.cons (t := 4) (Has.t rfl) (.cons (t := 5) (Has.t rfl) (.cons (t := 6) (Has.t rfl) (.cons (t := 8) (Has.t rfl) (.cons (t := 10) (Has.t rfl) (.cons (t := 11) (Has.t rfl) .nil))))))))) ?_)
        · show R.length - (i + 1) < R.length - i; omega
        · exact isI_eq (by omega)
        · rfl
      · have hc3 := BP.f hc3
        refine Tri.exit ?_
        refine At.the ?_
        refine At.the ?_
        refine At.blh ?_
        refine At.thn (hK17 _ _ ?_); clear hK17
        refine Tri.cv (Cv.wk (.cons (t := 0) (Has.t rfl) (.cons (t := 1) (Has.t rfl) (.cons (t := 4) (Has.t rfl) (.cons (t := 5) (Has.t rfl) (.cons (t := 6) (Has.t rfl) (.cons (t := 10) (Has.t rfl) (.cons (t := 11) (Has.t rfl) .nil)))))))) ?_
        refine Tri.seq fun K23 hK23 => ?_
        refine Tri.seq fun K24 hK24 => ?_
        refine Tri.region ?_
        refine st (OK1.as (Has.cI 0 rfl)) rfl ?_
        refine nl ?_
        refine At.thn (hK24 _ _ ?_); clear hK24
        refine Tri.block ?_
        refine Tri.loopF [0, 1, 4, 5, 6, 10, 11] (fun (z : { z : Nat × List Nat // z.2.length = G.length }) => match z with | ⟨(i, zG), hI⟩ => [(16, isI (i : Int))]) (fun M => fun (z : { z : Nat × List Nat // z.2.length = G.length }) => match z with | ⟨(i, zG), hI⟩ => [grM isU gs Z, grM isU gg zG, grM isU gq zQ, grM isU gr zR]) (fun (z : { z : Nat × List Nat // z.2.length = G.length }) => match z with | ⟨(i, zG), hI⟩ => G.length - i) (⟨(0, G), rfl⟩) (Cv.mem (.cons (t := 16) (Has.t' rfl ?_) (.cons (t := 0) (Has.t rfl) (.cons (t := 1) (Has.t rfl) (.cons (t := 4) (Has.t rfl) (.cons (t := 5) (Has.t rfl) (.cons (t := 6) (Has.t rfl) (.cons (t := 10) (Has.t rfl) (.cons (t := 11) (Has.t rfl) .nil)))))))) ?_) ?_
        · rfl
        · rfl
        rintro ⟨⟨i, zG⟩, hzG⟩ K25 hK25
        refine Tri.cv (Cv.wk (.cons (t := 16) (Has.t rfl) (.cons (t := 0) (Has.t rfl) (.cons (t := 1) (Has.t rfl) (.cons (t := 4) (Has.t rfl) (.cons (t := 5) (Has.t rfl) (.cons (t := 6) (Has.t rfl) (.cons (t := 10) (Has.t rfl) (.cons (t := 11) (Has.t rfl) .nil))))))))) ?_
        refine Tri.memEq (M' := [grM isU gs Z, grM isU gg zG, grM isU gq zQ, grM isU gr zR]) rfl ?_
        simp only [] at hzG
        refine Tri.seq fun K26 hK26 => ?_
        refine Tri.seq fun K27 hK27 => ?_
        refine Tri.region ?_
        refine st (OK1.mv (Has.t rfl)) rfl ?_
        refine st (OK1.mv (Has.t rfl)) rfl ?_
        refine st (OK1.len sl23 (Has.t rfl)) rfl ?_
        refine st (OK1.ltI (Has.t rfl) (Has.t rfl)) rfl ?_
        refine nl ?_
        refine At.thn (hK27 _ _ ?_); clear hK27
        refine Tri.cond (Has.t rfl) (fun hc4 => ?_) (fun hc4 => ?_)
        · have hc4 := BP.t hc4
          refine Tri.skip ?_
          refine At.thn (hK26 _ _ ?_); clear hK26
          refine Tri.seq fun K28 hK28 => ?_
          refine Tri.block ?_
          refine Tri.region ?_
          refine st (OK1.mv (Has.t rfl)) rfl ?_
          refine st (OK1.mv (Has.t rfl)) rfl ?_
          refine st (OK1.ixOn sl23 ty28 (Has.t rfl) (Has.t rfl) ⟨by omega, by omega⟩) rfl ?_
          refine st (OK1.loadGM (Has.t rfl) (i := 1) rfl ty28 (getD_some (d := 0) (by simp only [Int.toNat_natCast]; omega))) rfl ?_
          refine st (OK1.addU (Has.t rfl) (Has.cU 1 rfl)) rfl ?_
          refine st (OK1.ixOn sl23 ty28 (Has.t rfl) (Has.t rfl) ⟨by omega, by omega⟩) rfl ?_
          refine Ops.storeGM (Has.t rfl) (Has.t rfl) (i := 1) rfl ty28 (by simp only [Int.toNat_natCast]; omega) (M' := [_, grM _ _ _, _, _]) rfl ?_
          refine nl ?_
          refine At.bln ?_
          refine At.thn (hK28 _ _ ?_); clear hK28
          refine Tri.region ?_
          refine st (OK1.mv (Has.t rfl)) rfl ?_
          refine st (OK1.addI (Has.t rfl) (Has.cI 1 rfl) (by first | with_reducible assumption | omega) (by first | with_reducible assumption | omega)) rfl ?_
          refine st (OK1.as (Has.t rfl)) rfl ?_
          refine nl ?_
          refine At.thn ?_
          refine hK25 (⟨(i + 1, zG.set (i : Int).toNat ((zG.getD (i : Int).toNat 0 + 1) % 18446744073709551616)), by show (List.set _ _ _).length = _; rw [List.length_set]; exact hzG⟩) _ _ ?_ (Cv.mem (.cons (t := 16) (Has.t' rfl ?_) (.cons (t := 0) (Has.t rfl) (.cons (t := 1) (Has.t rfl) (.cons (t := 4) (Has.t rfl) (.cons (t := 5) (Has.t rfl) (.cons (t := 6) (Has.t rfl) (.cons (t := 10) (Has.t rfl) (.cons (t := 11) (Has.t rfl) .nil)))))))) ?_)
          · show G.length - (i + 1) < G.length - i; omega
          · exact isI_eq (by omega)
          · rfl
        · have hc4 := BP.f hc4
          refine Tri.exit ?_
          refine At.the ?_
          refine At.the ?_
          refine At.blh ?_
          refine At.thn (hK23 _ _ ?_); clear hK23
          refine Tri.cv (Cv.wk (.cons (t := 0) (Has.t rfl) (.cons (t := 1) (Has.t rfl) (.cons (t := 4) (Has.t rfl) (.cons (t := 5) (Has.t rfl) (.cons (t := 6) (Has.t rfl) (.cons (t := 11) (Has.t rfl) .nil))))))) ?_
          refine Tri.seq fun K29 hK29 => ?_
          refine Tri.seq fun K30 hK30 => ?_
          refine Tri.region ?_
          refine st (OK1.as (Has.cI 0 rfl)) rfl ?_
          refine nl ?_
          refine At.thn (hK30 _ _ ?_); clear hK30
          refine Tri.block ?_
          refine Tri.loopF [0, 1, 4, 5, 6, 11] (fun (z : { z : Nat × List Nat // z.2.length = Z.length }) => match z with | ⟨(i, zZ), hI⟩ => [(17, isI (i : Int))]) (fun M => fun (z : { z : Nat × List Nat // z.2.length = Z.length }) => match z with | ⟨(i, zZ), hI⟩ => [grM isU gs zZ, grM isU gg zG, grM isU gq zQ, grM isU gr zR]) (fun (z : { z : Nat × List Nat // z.2.length = Z.length }) => match z with | ⟨(i, zZ), hI⟩ => Z.length - i) (⟨(0, Z), rfl⟩) (Cv.mem (.cons (t := 17) (Has.t' rfl ?_) (.cons (t := 0) (Has.t rfl) (.cons (t := 1) (Has.t rfl) (.cons (t := 4) (Has.t rfl) (.cons (t := 5) (Has.t rfl) (.cons (t := 6) (Has.t rfl) (.cons (t := 11) (Has.t rfl) .nil))))))) ?_) ?_
          · rfl
          · rfl
          rintro ⟨⟨i, zZ⟩, hzZ⟩ K31 hK31
          refine Tri.cv (Cv.wk (.cons (t := 17) (Has.t rfl) (.cons (t := 0) (Has.t rfl) (.cons (t := 1) (Has.t rfl) (.cons (t := 4) (Has.t rfl) (.cons (t := 5) (Has.t rfl) (.cons (t := 6) (Has.t rfl) (.cons (t := 11) (Has.t rfl) .nil)))))))) ?_
          refine Tri.memEq (M' := [grM isU gs zZ, grM isU gg zG, grM isU gq zQ, grM isU gr zR]) rfl ?_
          simp only [] at hzZ
          refine Tri.seq fun K32 hK32 => ?_
          refine Tri.seq fun K33 hK33 => ?_
          refine Tri.region ?_
          refine st (OK1.mv (Has.t rfl)) rfl ?_
          refine st (OK1.mv (Has.t rfl)) rfl ?_
          refine st (OK1.len sl23 (Has.t rfl)) rfl ?_
          refine st (OK1.ltI (Has.t rfl) (Has.t rfl)) rfl ?_
          refine nl ?_
          refine At.thn (hK33 _ _ ?_); clear hK33
          refine Tri.cond (Has.t rfl) (fun hc5 => ?_) (fun hc5 => ?_)
          · have hc5 := BP.t hc5
            refine Tri.skip ?_
            refine At.thn (hK32 _ _ ?_); clear hK32
            refine Tri.seq fun K34 hK34 => ?_
            refine Tri.block ?_
            refine Tri.region ?_
            refine st (OK1.mv (Has.t rfl)) rfl ?_
            refine st (OK1.mv (Has.t rfl)) rfl ?_
            refine st (OK1.ixOn sl23 ty28 (Has.t rfl) (Has.t rfl) ⟨by omega, by omega⟩) rfl ?_
            refine st (OK1.loadGM (Has.t rfl) (i := 0) rfl ty28 (getD_some (d := 0) (by simp only [Int.toNat_natCast]; omega))) rfl ?_
            refine st (OK1.addU (Has.t rfl) (Has.cU 1 rfl)) rfl ?_
            refine st (OK1.ixOn sl23 ty28 (Has.t rfl) (Has.t rfl) ⟨by omega, by omega⟩) rfl ?_
            refine Ops.storeGM (Has.t rfl) (Has.t rfl) (i := 0) rfl ty28 (by simp only [Int.toNat_natCast]; omega) (M' := [grM _ _ _, _, _, _]) rfl ?_
            refine nl ?_
            refine At.bln ?_
            refine At.thn (hK34 _ _ ?_); clear hK34
            refine Tri.region ?_
            refine st (OK1.mv (Has.t rfl)) rfl ?_
            refine st (OK1.addI (Has.t rfl) (Has.cI 1 rfl) (by first | with_reducible assumption | omega) (by first | with_reducible assumption | omega)) rfl ?_
            refine st (OK1.as (Has.t rfl)) rfl ?_
            refine nl ?_
            refine At.thn ?_
            refine hK31 (⟨(i + 1, zZ.set (i : Int).toNat ((zZ.getD (i : Int).toNat 0 + 1) % 18446744073709551616)), by show (List.set _ _ _).length = _; rw [List.length_set]; exact hzZ⟩) _ _ ?_ (Cv.mem (.cons (t := 17) (Has.t' rfl ?_) (.cons (t := 0) (Has.t rfl) (.cons (t := 1) (Has.t rfl) (.cons (t := 4) (Has.t rfl) (.cons (t := 5) (Has.t rfl) (.cons (t := 6) (Has.t rfl) (.cons (t := 11) (Has.t rfl) .nil))))))) ?_)
            · show Z.length - (i + 1) < Z.length - i; omega
            · exact isI_eq (by omega)
            · rfl
          · have hc5 := BP.f hc5
            refine Tri.exit ?_
            refine At.the ?_
            refine At.the ?_
            refine At.blh ?_
            refine At.thn (hK29 _ _ ?_); clear hK29
            refine Tri.cv (Cv.wk (.cons (t := 0) (Has.t rfl) (.cons (t := 1) (Has.t rfl) (.cons (t := 4) (Has.t rfl) (.cons (t := 5) (Has.t rfl) (.cons (t := 6) (Has.t rfl) .nil)))))) ?_
            refine Tri.seq fun K35 hK35 => ?_
            refine Tri.region ?_
            refine st (OK1.mv (Has.t rfl)) rfl ?_
            refine st (OK1.mv (Has.t rfl)) rfl ?_
            refine st (OK1.call ref01_Same (.cons (Has.t rfl) (.cons (Has.t rfl) .nil))) rfl ?_
            refine st (OK1.mv (Has.t rfl)) rfl ?_
            refine stT rfl rfl (fun hg => have hg' := BP.t hg; OK1.mv (Has.t rfl)) rfl ?_
            refine stT rfl rfl (fun hg => have hg' := BP.t hg; OK1.mv (Has.t rfl)) rfl ?_
            refine stT rfl rfl (fun hg => have hg' := BP.t hg; OK1.call ref01_Same (.cons (Has.g rfl hg) (.cons (Has.g rfl hg) .nil))) rfl ?_
            refine st (OK1.pickAnd (Has.t rfl) (fun h => Has.g rfl h)) rfl ?_
            refine st (OK1.as (Has.t rfl)) rfl ?_
            refine nl ?_
            refine At.thn (hK35 _ _ ?_); clear hK35
            refine Tri.cv (Cv.wk (.cons (t := 4) (Has.t rfl) .nil)) ?_
            refine Tri.ret ?_
            refine rt1 (.inl rfl) Try.results3 rfl (.tmp (Has.t' rfl ?_) .nil)
            all_goals (exact isB_eq (by simp))
end Go.Proofs.Ytlonhlafnimcmaa
/- The law DivOwn. -/
namespace Go.Proofs.Ytlonhlafnimcmaa
open Go.En Go.RowKit
set_option linter.unusedVariables false
set_option maxRecDepth 10000
open Go.Nt
open Go.ChangeShapes Go.WideShapes Go.ChangeAt
theorem opens_DivOwn : Opens Try.prog Try.f3 3 := by
  intro H enc W base args ds ps hval hA hlt
  rw [Try.params3] at hA hval
  obtain ⟨v0, vs0, d0, ds0, p0, q0, hargs, rfl, rfl, h0, r0⟩ := trodAll_cons hA
  obtain ⟨v1, vs1, d1, ds1, p1, q1, rfl, rfl, rfl, h1, r1⟩ := trodAll_cons r0
  obtain ⟨rfl, rfl, rfl⟩ := trodAll_nil r1
  obtain rfl : args = #[v0, v1] := by cases args; simp_all
  obtain ⟨x0, o0⟩ := open_words un23 un28 (by kernel_rfl) (hval 0 23 v0 rfl rfl) h0 (fun x hx => hlt x (by simp [hx]))
  obtain ⟨x1, o1⟩ := open_words un23 un28 (by kernel_rfl) (hval 1 23 v1 rfl rfl) h1 (fun x hx => hlt x (by simp [hx]))
  refine ⟨_, ?_, c_DivOwn x0 x1⟩
  exact ⟨o0, o1, trivial⟩
theorem jn_DivOwn : Try.pinned.checked.prog.funcNamed Rows.divOwnRow.func = some 3 := by kernel_rfl
theorem jf_DivOwn : joinedFacts Try.pinned.checked.prog 3 Try.f3 Rows.divOwnSpec Rows.divOwnRow = true := by kernel_rfl
theorem jl_DivOwn : laidOutB Try.checked.prog = true := by kernel_rfl
theorem divOwn_said : Rows.DivOwnSaid :=
  OpenClaim.holds_of_wide 3 Try.f3 rfl rfl rfl rfl rfl rfl rfl ⟨rfl, rfl, rfl, rfl, rfl⟩ rfl rfl rfl rfl rfl jn_DivOwn Try.func3 jf_DivOwn
    (of_decide_eq_true (by kernel_rfl)) (by unfold Func.isWrapper; first | (rw [if_pos (by decide +kernel)]; kernel_rfl) | (rw [if_neg (by decide +kernel)]; exact ⟨rfl, rfl⟩))
    (fun os started H enc _ => lift_law (C := Try.checked) (s := Rows.divOwnSpec) (by kernel_rfl) started (by kernel_rfl) Try.func3
      (ChangeSpec.witness6 (enc := enc) (C := Try.checked) false ⟨#[], #[.slice none 0 0, .slice none 0 0], []⟩ 8 (by kernel_rfl) (by kernel_rfl) (by kernel_rfl) (by kernel_rfl))
      jl_DivOwn (by kernel_rfl) rfl rfl un4 (fun ds h => by match ds, h with | [d0, d1], _ => rfl) opens_DivOwn)
#print axioms divOwn_said
end Go.Proofs.Ytlonhlafnimcmaa
