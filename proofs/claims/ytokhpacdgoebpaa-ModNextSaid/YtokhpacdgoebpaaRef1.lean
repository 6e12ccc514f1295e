/- Contracts: the reference for naturals, digit by digit. -/
import Derived.Test.YtokhpacdgoebpaaDiv5
import Derived.Test.YtokhpacdgoebpaaDigR
namespace Go.Proofs.Ytokhpacdgoebpaa
open Go.En Go.RowKit
set_option linter.unusedVariables false
set_option maxRecDepth 10000
open Go.Nt
set_option maxHeartbeats 4000000 in
theorem ref01_Trim {xs : List Nat} (hx : OkD xs) : Ctr Try.prog 159 [SlM isN xs] (SlM isN (digs (dval xs))) := by
  refine Ctr.intro Try.func159 rfl (by kernel_rfl) Try.ntmps159 rfl fun w0 F0 => ?_
  refine Tri.cv (Cv.wk (.cons (t := 0) (Has.t rfl) .nil)) ?_
  refine Tri.fact (Has.lenLt (Has.t (t := 0) rfl)) fun lt0 => ?_
  refine Tri.seq fun K1 hK1 => ?_
  refine Tri.region ?_
  refine st (OK1.as (Has.cW (f := isI))) rfl ?_
  refine nl ?_
  refine At.thn (hK1 _ _ ?_); clear hK1
  refine Tri.seq fun K2 hK2 => ?_
  refine Tri.region ?_
  refine st (OK1.mv (Has.t rfl)) rfl ?_
  refine st (OK1.len sl32 (Has.t rfl)) rfl ?_
  refine st (OK1.as (Has.t rfl)) rfl ?_
  refine nl ?_
  refine At.thn (hK2 _ _ ?_); clear hK2
  refine Tri.seq fun K3 hK3 => ?_
  refine Tri.block ?_
  refine Tri.loopF [0, 2] (fun (z : { k : Nat // k ≤ xs.length ∧ ∀ i, k ≤ i → xs.getD i 0 = 0 }) => match z with | ⟨k, hI⟩ => [(3, isI (k : Int))]) (fun M => fun (z : { k : Nat // k ≤ xs.length ∧ ∀ i, k ≤ i → xs.getD i 0 = 0 }) => match z with | ⟨k, hI⟩ => M) (fun (z : { k : Nat // k ≤ xs.length ∧ ∀ i, k ≤ i → xs.getD i 0 = 0 }) => match z with | ⟨k, hI⟩ => k) (⟨xs.length, Nat.le_refl _, fun i hi => by simp [List.getD, List.getElem?_eq_none hi]⟩) (Cv.mem (.cons (t := 3) (Has.t' rfl ?_) (.cons (t := 0) (Has.t rfl) (.cons (t := 2) (Has.t rfl) .nil))) ?_) ?_
  · rfl
  · rfl
  rintro ⟨k, hk, hz⟩ K4 hK4
  refine Tri.cv (Cv.wk (.cons (t := 3) (Has.t rfl) (.cons (t := 0) (Has.t rfl) (.cons (t := 2) (Has.t rfl) .nil)))) ?_
  have ek : ((k : Int) - 1).toNat = k - 1 := by omega
  refine Tri.seq fun K5 hK5 => ?_
  refine Tri.seq fun K6 hK6 => ?_
  refine Tri.region ?_
  refine st (OK1.mv (Has.t rfl)) rfl ?_
  refine st (OK1.gtI (Has.t rfl) (Has.cI 0 rfl)) rfl ?_
  refine st (OK1.mv (Has.t rfl)) rfl ?_
  refine stT rfl rfl (fun hg => have hg' := BP.t hg; OK1.mv (Has.t rfl)) rfl ?_
  refine stT rfl rfl (fun hg => have hg' := BP.t hg; OK1.mv (Has.t rfl)) rfl ?_
  refine stT rfl rfl (fun hg => have hg' := BP.t hg; OK1.subI (Has.g rfl hg) (Has.cI 1 rfl) (by first | with_reducible assumption | omega | with_reducible exact d_words_ok _ | with_reducible exact d_wordsN_ok _ _ | (simp only [d_val_words]; omega)) (by first | with_reducible assumption | omega | with_reducible exact d_words_ok _ | with_reducible exact d_wordsN_ok _ _ | (simp only [d_val_words]; omega))) rfl ?_
  refine stT rfl rfl (fun hg => have hg' := BP.t hg; OK1.ixP sl32 ty3 (Has.g rfl hg) (Has.g rfl hg) ⟨by omega, by omega⟩ (getD_some (d := 0) (by first | omega | (simp only [Int.toNat_natCast, List.length_set]; omega)))) rfl ?_
  refine stT rfl rfl (fun hg => have hg' := BP.t hg; OK1.loadP1 (Has.g rfl hg) ty3) rfl ?_
  refine stT rfl rfl (fun hg => have hg' := BP.t hg; OK1.eqI (Has.g rfl hg) (Has.cI 0 rfl)) rfl ?_
  refine st (OK1.pickAnd (Has.t rfl) (fun h => Has.g rfl h)) rfl ?_
  refine nl ?_
  refine At.thn (hK6 _ _ ?_); clear hK6
  refine Tri.cond (Has.t rfl) (fun hc1 => ?_) (fun hc1 => ?_)
  · have hc1 := BP.t hc1
    refine Tri.skip ?_
    refine At.thn (hK5 _ _ ?_); clear hK5
    refine Tri.block ?_
    refine Tri.region ?_
    refine st (OK1.mv (Has.t rfl)) rfl ?_
    refine st (OK1.subI (Has.t rfl) (Has.cI 1 rfl) (by first | with_reducible assumption | omega | with_reducible exact d_words_ok _ | with_reducible exact d_wordsN_ok _ _ | (simp only [d_val_words]; omega)) (by first | with_reducible assumption | omega | with_reducible exact d_words_ok _ | with_reducible exact d_wordsN_ok _ _ | (simp only [d_val_words]; omega))) rfl ?_
    refine st (OK1.as (Has.t rfl)) rfl ?_
    refine nl ?_
    refine At.bln ?_
    refine At.thn ?_
    refine hK4 (⟨k - 1, by omega, fun i hi => by rcases Nat.lt_or_ge i k with h | h; (have e : i = k - 1 := by omega); (have := hc1.2; rw [e, ← ek]; omega); exact hz i h⟩) _ _ ?_ (Cv.mem (.cons (t := 3) (Has.t' rfl ?_) (.cons (t := 0) (Has.t rfl) (.cons (t := 2) (Has.t rfl) .nil))) ?_)
    · show k - 1 < k; omega
    · exact isI_eq (by omega)
    · rfl
  · have hc1 := BP.f hc1
    refine Tri.exit ?_
    refine At.the ?_
    refine At.the ?_
    refine At.blh ?_
    refine At.thn (hK3 _ _ ?_); clear hK3
    refine Tri.cv (Cv.wk (.cons (t := 0) (Has.t rfl) (.cons (t := 2) (Has.t rfl) (.cons (t := 3) (Has.t rfl) .nil)))) ?_
    refine Tri.seq fun K7 hK7 => ?_
    refine Tri.region ?_
    refine st (OK1.mv (Has.t rfl)) rfl ?_
    refine st (OK1.mv (Has.t rfl)) rfl ?_
    refine st (OK1.slHM sl32 ty3 (Has.t rfl) (Has.t rfl) ⟨by omega, by omega⟩) rfl ?_
    refine st (OK1.as (Has.t rfl)) rfl ?_
    refine nl ?_
    refine At.thn (hK7 _ _ ?_); clear hK7
    refine Tri.cv (Cv.wk (.cons (t := 2) (Has.t rfl) .nil)) ?_
    refine Tri.ret ?_
    refine rt1 (.inl rfl) Try.results159 rfl (.tmp (Has.t' rfl ?_) .nil)
    all_goals (exact SlM_eq (d_words_of_take hx hk hz (by rcases hc1 with h | h; left; omega; right; rw [ek] at h; exact fun e => h (congrArg (fun n : Nat => (n : Int)) e))))

set_option maxHeartbeats 4000000 in
theorem ref01_at {xs : List Nat} {i : Nat} : Ctr Try.prog 176 [SlM isN xs, isI (i : Int)] (isN (xs.getD i 0)) := by
  refine Ctr.intro Try.func176 rfl (by kernel_rfl) Try.ntmps176 rfl fun w0 F0 => ?_
  refine Tri.cv (Cv.wk (.cons (t := 0) (Has.t rfl) (.cons (t := 1) (Has.t rfl) .nil))) ?_
  refine Tri.fact (Has.lenLt (Has.t (t := 0) rfl)) fun lt0 => ?_
  refine Tri.fact (Has.rngI (Has.t (t := 1) rfl)) fun lt1 => ?_
  refine Tri.seq fun K1 hK1 => ?_
  refine Tri.region ?_
  refine st (OK1.as (Has.cI 0 rfl)) rfl ?_
  refine nl ?_
  refine At.thn (hK1 _ _ ?_); clear hK1
  refine Tri.seq fun K2 hK2 => ?_
  refine Tri.seq fun K3 hK3 => ?_
  refine Tri.region ?_
  refine st (OK1.mv (Has.t rfl)) rfl ?_
  refine st (OK1.mv (Has.t rfl)) rfl ?_
  refine st (OK1.len sl32 (Has.t rfl)) rfl ?_
  refine st (OK1.ltI (Has.t rfl) (Has.t rfl)) rfl ?_
  refine nl ?_
  refine At.thn (hK3 _ _ ?_); clear hK3
  refine Tri.cond (Has.t rfl) (fun hc1 => ?_) (fun hc1 => ?_)
  · have hc1 := BP.t hc1
    refine Tri.seq fun K4 hK4 => ?_
    refine Tri.region ?_
    refine st (OK1.mv (Has.t rfl)) rfl ?_
    refine st (OK1.mv (Has.t rfl)) rfl ?_
    refine st (OK1.ixP sl32 ty3 (Has.t rfl) (Has.t rfl) ⟨by omega, by omega⟩ (getD_some (d := 0) (by first | omega | (simp only [Int.toNat_natCast, List.length_set]; omega)))) rfl ?_
    refine st (OK1.loadP1 (Has.t rfl) ty3) rfl ?_
    refine st (OK1.as (Has.t rfl)) rfl ?_
    refine nl ?_
    refine At.thn (hK4 _ _ ?_); clear hK4
    refine Tri.cv (Cv.wk (.cons (t := 4) (Has.t rfl) .nil)) ?_
    refine Tri.ret ?_
    refine At.thr ?_
    refine rt1 (.inl rfl) Try.results176 rfl (.tmp (Has.t' rfl ?_) .nil)
    all_goals (exact isI_eq (by rw [Int.toNat_natCast]))
  · have hc1 := BP.f hc1
    refine Tri.skip ?_
    refine At.thn (hK2 _ _ ?_); clear hK2
    refine Tri.cv (Cv.wk (.cons (t := 4) (Has.t rfl) .nil)) ?_
    refine Tri.seq fun K5 hK5 => ?_
    refine Tri.region ?_
    refine st (OK1.as (Has.cI 0 rfl)) rfl ?_
    refine nl ?_
    refine At.thn (hK5 _ _ ?_); clear hK5
    refine Tri.ret ?_
    refine rt1 (.inl rfl) Try.results176 rfl (.tmp (Has.t' rfl ?_) .nil)
    all_goals (exact isI_eq (by rw [List.getD, List.getElem?_eq_none (by omega)]; rfl))

set_option maxHeartbeats 4000000 in
theorem ref01_From {xs : List Nat} (hx : xs.length ≤ 268435456) : Ctr Try.prog 133 [isWords xs] (SlM isN (digs (val xs))) := by
  refine Ctr.intro Try.func133 rfl (by kernel_rfl) Try.ntmps133 rfl fun w0 F0 => ?_
  refine Tri.cv (Cv.wk (.cons (t := 0) (Has.t rfl) .nil)) ?_
  refine Tri.fact (Has.lenLt (Has.t (t := 0) rfl)) fun lt0 => ?_
  refine Tri.fact (Has.okW (Has.t (t := 0) rfl)) fun ok0 => ?_
  refine Tri.seq fun K1 hK1 => ?_
  refine Tri.region ?_
  refine st (OK1.as (Has.cW (f := isN))) rfl ?_
  refine nl ?_
  refine At.thn (hK1 _ _ ?_); clear hK1
  refine Tri.seq fun K2 hK2 => ?_
  refine Tri.region ?_
  refine Ops.cv (Cv.grow0 (α := Nat) isN) ?_
  refine st (OK1.as (Has.cGr (α := Nat))) rfl ?_
  refine nl ?_
  refine At.thn (hK2 _ _ ?_); clear hK2
  refine Tri.seq fun K3 hK3 => ?_
  refine Tri.seq fun K4 hK4 => ?_
  refine Tri.region ?_
  refine st (OK1.as (Has.cI 0 rfl)) rfl ?_
  refine nl ?_
  refine At.thn (hK4 _ _ ?_); clear hK4
  refine Tri.block ?_
  refine Tri.loopF [0, 2] (fun (z : { z : Nat × Gr Nat // z.1 ≤ xs.length }) => match z with | ⟨(i, g), hI⟩ => [(4, isI (i : Int)), (3, isGr g (digsN (4 * i) (val xs)).length)]) (fun M => fun (z : { z : Nat × Gr Nat // z.1 ≤ xs.length }) => match z with | ⟨(i, g), hI⟩ => [grM isN g (digsN (4 * i) (val xs))]) (fun (z : { z : Nat × Gr Nat // z.1 ≤ xs.length }) => match z with | ⟨(i, g), hI⟩ => xs.length - i) (⟨(0, Gr.nil), Nat.zero_le _⟩) (Cv.mem (.cons (t := 4) (Has.t' rfl ?_) (.cons (t := 3) (Has.t' rfl ?_) (.cons (t := 0) (Has.t rfl) (.cons (t := 2) (Has.t rfl) .nil)))) ?_) ?_
  · rfl
  · rfl
  · rfl
  rintro ⟨⟨i, g⟩, hI⟩ K5 hK5
  refine Tri.cv (Cv.wk (.cons (t := 4) (Has.t rfl) (.cons (t := 3) (Has.t rfl) (.cons (t := 0) (Has.t rfl) (.cons (t := 2) (Has.t rfl) .nil))))) ?_
  refine Tri.memEq (M' := [grM isN g (digsN (4 * i) (val xs))]) rfl ?_
  simp only [] at hI
  refine Tri.seq fun K6 hK6 => ?_
  refine Tri.seq fun K7 hK7 => ?_
  refine Tri.region ?_
  refine st (OK1.mv (Has.t rfl)) rfl ?_
  refine st (OK1.mv (Has.t rfl)) rfl ?_
  refine st (OK1.len sl22 (Has.t rfl)) rfl ?_
  refine st (OK1.ltI (Has.t rfl) (Has.t rfl)) rfl ?_
  refine nl ?_
  refine At.thn (hK7 _ _ ?_); clear hK7
  refine Tri.cond (Has.t rfl) (fun hc1 => ?_) (fun hc1 => ?_)
  · have hc1 := BP.t hc1
    refine Tri.skip ?_
    refine At.thn (hK6 _ _ ?_); clear hK6
    refine Tri.seq fun K8 hK8 => ?_
    refine Tri.block ?_
    refine Tri.seq fun K9 hK9 => ?_
    refine Tri.region ?_
    refine st (OK1.mv (Has.t rfl)) rfl ?_
    refine st (OK1.mv (Has.t rfl)) rfl ?_
    refine st (OK1.ixP sl22 ty27 (Has.t rfl) (Has.t rfl) ⟨by omega, by omega⟩ (getD_some (d := 0) (by first | omega | (simp only [Int.toNat_natCast, List.length_set]; omega)))) rfl ?_
    refine st (OK1.eq (OK1.loadP1 (Has.t rfl) ty27) ((show isU _ = isU (dig (val xs) i) from isU_eq (by rw [Int.toNat_natCast]; exact getD_val ok0 i)))) rfl ?_
    refine st (OK1.as (Has.t rfl)) rfl ?_
    refine nl ?_
    refine At.thn (hK9 _ _ ?_); clear hK9
    refine Tri.seq fun K10 hK10 => ?_
    refine Tri.region ?_
    refine st (OK1.as (Has.cI 0 rfl)) rfl ?_
    refine nl ?_
    refine At.thn (hK10 _ _ ?_); clear hK10
    refine Tri.block ?_
    refine Tri.loopF [0, 2, 4, 7, 8, 9, 10, 13, 14, 15, 16] (fun (z : { z : Nat × Gr Nat // z.1 ≤ 4 }) => match z with | ⟨(k, g2), hk⟩ => [(6, isI (k : Int)), (5, isU (dig (val xs) i / D ^ k)), (3, isGr g2 (digsN (4 * i + k) (val xs)).length)]) (fun M => fun (z : { z : Nat × Gr Nat // z.1 ≤ 4 }) => match z with | ⟨(k, g2), hk⟩ => [grM isN g2 (digsN (4 * i + k) (val xs))]) (fun (z : { z : Nat × Gr Nat // z.1 ≤ 4 }) => match z with | ⟨(k, g2), hk⟩ => 4 - k) (⟨(0, g), Nat.zero_le _⟩) (Cv.mem (.cons (t := 6) (Has.t' rfl ?_) (.cons (t := 5) (Has.t' rfl ?_) (.cons (t := 3) (Has.t' rfl ?_) (.cons (t := 0) (Has.t rfl) (.cons (t := 2) (Has.t rfl) (.cons (t := 4) (Has.t rfl) (.cons (t := 7) (Has.t rfl) (.cons (t := 8) (Has.t rfl) (.cons (t := 9) (Has.t rfl) (.cons (t := 10) (Has.t rfl) (.cons (t := 13) (Has.t rfl) (.cons (t := 14) (Has.t rfl) (.cons (t := 15) (Has.t rfl) (.cons (t := 16) (Has.t rfl) .nil)))))))))))))) ?_) ?_
    · rfl
    · exact isU_eq (by rw [Nat.pow_zero, Nat.div_one])
    · rfl
    · rfl
    rintro ⟨⟨k, g2⟩, hk⟩ K11 hK11
    refine Tri.cv (Cv.wk (.cons (t := 6) (Has.t rfl) (.cons (t := 5) (Has.t rfl) (.cons (t := 3) (Has.t rfl) (.cons (t := 0) (Has.t rfl) (.cons (t := 2) (Has.t rfl) (.cons (t := 4) (Has.t rfl) (.cons (t := 7) (Has.t rfl) (.cons (t := 8) (Has.t rfl) (.cons (t := 9) (Has.t rfl) (.cons (t := 10) (Has.t rfl) (.cons (t := 13) (Has.t rfl) (.cons (t := 14) (Has.t rfl) (.cons (t := 15) (Has.t rfl) (.cons (t := 16) (Has.t rfl) .nil))))))))))))))) ?_
    refine Tri.memEq (M' := [grM isN g2 (digsN (4 * i + k) (val xs))]) rfl ?_
    simp only [] at hk
    have hdl2 := d_wordsN_len (4 * i + k) (val xs)
    have hdl := dig_div_lt (val xs) i k
    refine Tri.seq fun K12 hK12 => ?_
    refine Tri.seq fun K13 hK13 => ?_
    refine Tri.region ?_
    refine st (OK1.mv (Has.t rfl)) rfl ?_
    refine st (OK1.ltI (Has.t rfl) (Has.cI 4 rfl)) rfl ?_
    refine nl ?_
    refine At.thn (hK13 _ _ ?_); clear hK13
    refine Tri.cond (Has.t rfl) (fun hc2 => ?_) (fun hc2 => ?_)
    · have hc2 := BP.t hc2
      refine Tri.skip ?_
      refine At.thn (hK12 _ _ ?_); clear hK12
      refine Tri.seq fun K14 hK14 => ?_
      refine Tri.block ?_
      refine Tri.seq fun K15 hK15 => ?_
      refine Tri.region ?_
      refine st (OK1.mv (Has.t rfl)) rfl ?_
      refine st (OK1.mv (Has.t rfl)) rfl ?_
      refine st (OK1.remU (Has.t rfl) (Has.cU 65536 rfl) (by first | with_reducible assumption | omega | with_reducible exact d_words_ok _ | with_reducible exact d_wordsN_ok _ _ | (simp only [d_val_words]; omega)) (by first | with_reducible assumption | omega | with_reducible exact d_words_ok _ | with_reducible exact d_wordsN_ok _ _ | (simp only [d_val_words]; omega))) rfl ?_
      refine st (OK1.eq (OK1.convUI un27 un3 (Has.t rfl) (by first | with_reducible assumption | omega | with_reducible exact d_words_ok _ | with_reducible exact d_wordsN_ok _ _ | (simp only [d_val_words]; omega))) ((show isI _ = isN (dg (val xs) (4 * i + k)) from isI_eq (by rw [dig_dg _ _ _ (by omega)])))) rfl ?_
      refine st (OK1.buildS [isI 0] sl32 ty3 zero3 (fun _ _ => ⟨⟨rfl, by decide, by decide⟩, trivial⟩) rfl rfl (.cons (Has.t rfl) rfl rfl rfl .nil) rfl (S := SlM isN [_]) rfl) rfl ?_
      refine Ops.appendG (f := isN) (u := 0) sl32 ty3 zero3 (fun _ _ => ⟨⟨rfl, by decide, by decide⟩, trivial⟩) (fun _ => inferInstance) by3 (Has.t rfl) (i := 0) rfl (Has.t rfl) (by simp only [List.length_cons, List.length_nil]; omega) (by simp) rfl fun gr1 => ?_
      refine Ops.memEq (M' := [grM _ _ _]) rfl ?_
      refine st (OK1.as (Has.t rfl)) rfl ?_
      refine nl ?_
      refine At.thn (hK15 _ _ ?_); clear hK15
      refine Tri.region ?_
      refine st (OK1.mv (Has.t rfl)) rfl ?_
      refine st (OK1.quoU (Has.t rfl) (Has.cU 65536 rfl) (by first | with_reducible assumption | omega | with_reducible exact d_words_ok _ | with_reducible exact d_wordsN_ok _ _ | (simp only [d_val_words]; omega)) (by first | with_reducible assumption | omega | with_reducible exact d_words_ok _ | with_reducible exact d_wordsN_ok _ _ | (simp only [d_val_words]; omega))) rfl ?_
      refine st (OK1.as (Has.t rfl)) rfl ?_
      refine nl ?_
      refine At.bln ?_
      refine At.thn (hK14 _ _ ?_); clear hK14
      refine Tri.region ?_
      refine st (OK1.mv (Has.t rfl)) rfl ?_
      refine st (OK1.addI (Has.t rfl) (Has.cI 1 rfl) (by first | with_reducible assumption | omega | with_reducible exact d_words_ok _ | with_reducible exact d_wordsN_ok _ _ | (simp only [d_val_words]; omega)) (by first | with_reducible assumption | omega | with_reducible exact d_words_ok _ | with_reducible exact d_wordsN_ok _ _ | (simp only [d_val_words]; omega))) rfl ?_
      refine st (OK1.as (Has.t rfl)) rfl ?_
      refine nl ?_
      refine At.thn ?_
      refine hK11 (⟨(k + 1, gr1), by show k + 1 ≤ 4; omega⟩) _ _ ?_ (Cv.mem (.cons (t := 6) (Has.t' rfl ?_) (.cons (t := 5) (Has.t' rfl ?_) (.cons (t := 3) (Has.t' rfl ?_) (.cons (t := 0) (Has.t rfl) (.cons (t := 2) (Has.t rfl) (.cons (t := 4) (Has.t rfl) (.cons (t := 7) (Has.t rfl) (.cons (t := 8) (Has.t rfl) (.cons (t := 9) (Has.t rfl) (.cons (t := 10) (Has.t rfl) (.cons (t := 13) (Has.t rfl) (.cons (t := 14) (Has.t rfl) (.cons (t := 15) (Has.t rfl) (.cons (t := 16) (Has.t rfl) .nil)))))))))))))) ?_)
      · show 4 - (k + 1) < 4 - k; omega
      · rfl
      · exact isU_eq (by rw [Nat.pow_succ, Nat.div_div_eq_div_mul])
      · exact isGr_eq (by simp only [List.length_append, d_wordsN_len, wordsN_len, addL_len, List.length_cons, List.length_nil] <;> omega)
      · exact grM_eq (d_wordsN_succ _ _).symm
    · have hc2 := BP.f hc2
      refine Tri.exit ?_
      refine At.the ?_
      refine At.the ?_
      refine At.blh ?_
      refine At.bln ?_
      refine At.thn (hK8 _ _ ?_); clear hK8
      refine Tri.region ?_
      refine st (OK1.mv (Has.t rfl)) rfl ?_
      refine st (OK1.addI (Has.t rfl) (Has.cI 1 rfl) (by first | with_reducible assumption | omega | with_reducible exact d_words_ok _ | with_reducible exact d_wordsN_ok _ _ | (simp only [d_val_words]; omega)) (by first | with_reducible assumption | omega | with_reducible exact d_words_ok _ | with_reducible exact d_wordsN_ok _ _ | (simp only [d_val_words]; omega))) rfl ?_
      refine st (OK1.as (Has.t rfl)) rfl ?_
      refine nl ?_
      refine At.thn ?_
      obtain rfl : k = 4 := by omega
      refine hK5 (⟨(i + 1, g2), by show i + 1 ≤ _; omega⟩) _ _ ?_ (Cv.mem (.cons (t := 4) (Has.t' rfl ?_) (.cons (t := 3) (Has.t' rfl ?_) (.cons (t := 0) (Has.t rfl) (.cons (t := 2) (Has.t rfl) .nil)))) ?_)
      · show xs.length - (i + 1) < xs.length - i; omega
      · rfl
      · rfl
      · rfl
  · have hc1 := BP.f hc1
    refine Tri.exit ?_
    refine At.the ?_
    refine At.the ?_
    refine At.blh ?_
    refine At.thn (hK3 _ _ ?_); clear hK3
    refine Tri.cv (Cv.wk (.cons (t := 2) (Has.t rfl) (.cons (t := 3) (Has.t rfl) .nil))) ?_
    refine Tri.seq fun K16 hK16 => ?_
    refine Tri.cv (Cv.freezeG (t := 3) (i := 0) (ys := digsN (4 * i) (val xs)) rfl rfl rfl) ?_
    refine Tri.memEq (M' := []) rfl ?_
    refine Tri.cv (Cv.wk (.cons (t := 2) (Has.t rfl) (.cons (t := 3) (Has.t rfl) .nil))) ?_
    refine Tri.region ?_
    refine st (OK1.mv (Has.t rfl)) rfl ?_
    refine st (OK1.call (ref01_Trim (by first | with_reducible assumption | omega | with_reducible exact d_words_ok _ | with_reducible exact d_wordsN_ok _ _ | (simp only [d_val_words]; omega))) (.cons (Has.t rfl) .nil)) rfl ?_
    refine st (OK1.as (Has.t rfl)) rfl ?_
    refine nl ?_
    refine At.thn (hK16 _ _ ?_); clear hK16
    refine Tri.ret ?_
    refine rt1 (.inl rfl) Try.results133 rfl (.tmp (Has.t' rfl ?_) .nil)
    all_goals (exact SlM_eq (from_end ok0 (by omega)))

set_option maxHeartbeats 4000000 in
theorem ref01_Carried {ds : List Nat} (hd : ∀ x ∈ ds, x ≤ 1099511627776) (hl : ds.length ≤ 1073741824) : Ctr Try.prog 177 [SlM isN ds] (SlM isN (digs (dval ds))) := by
  refine Ctr.intro Try.func177 rfl (by kernel_rfl) Try.ntmps177 rfl fun w0 F0 => ?_
  refine Tri.cv (Cv.wk (.cons (t := 0) (Has.t rfl) .nil)) ?_
  refine Tri.fact (Has.lenLt (Has.t (t := 0) rfl)) fun lt0 => ?_
  refine Tri.seq fun K1 hK1 => ?_
  refine Tri.region ?_
  refine st (OK1.as (Has.cW (f := isN))) rfl ?_
  refine nl ?_
  refine At.thn (hK1 _ _ ?_); clear hK1
  refine Tri.seq fun K2 hK2 => ?_
  refine Tri.region ?_
  refine Ops.cv (Cv.grow0 (α := Nat) isN) ?_
  refine st (OK1.as (Has.cGr (α := Nat))) rfl ?_
  refine nl ?_
  refine At.thn (hK2 _ _ ?_); clear hK2
  refine Tri.seq fun K3 hK3 => ?_
  refine Tri.region ?_
  refine st (OK1.as (Has.cI 0 rfl)) rfl ?_
  refine nl ?_
  refine At.thn (hK3 _ _ ?_); clear hK3
  refine Tri.seq fun K4 hK4 => ?_
  refine Tri.seq fun K5 hK5 => ?_
  refine Tri.region ?_
  refine st (OK1.as (Has.cI 0 rfl)) rfl ?_
  refine nl ?_
  refine At.thn (hK5 _ _ ?_); clear hK5
  refine Tri.block ?_
  refine Tri.loopF [0, 2] (fun (z : { z : Nat × Nat × Gr Nat // z.2.1 + dval (ds.drop z.1) = dval ds / D ^ z.1 ∧ z.2.1 ≤ 1099511627776 ∧ z.1 ≤ ds.length + 4 }) => match z with | ⟨(i, c, g), hI⟩ => [(5, isI (i : Int)), (4, isN c), (3, isGr g (digsN i (dval ds)).length)]) (fun M => fun (z : { z : Nat × Nat × Gr Nat // z.2.1 + dval (ds.drop z.1) = dval ds / D ^ z.1 ∧ z.2.1 ≤ 1099511627776 ∧ z.1 ≤ ds.length + 4 }) => match z with | ⟨(i, c, g), hI⟩ => [grM isN g (digsN i (dval ds))]) (fun (z : { z : Nat × Nat × Gr Nat // z.2.1 + dval (ds.drop z.1) = dval ds / D ^ z.1 ∧ z.2.1 ≤ 1099511627776 ∧ z.1 ≤ ds.length + 4 }) => match z with | ⟨(i, c, g), hI⟩ => dval ds / D ^ i + (ds.length - i)) (⟨(0, 0, Gr.nil), by simp, by decide, Nat.zero_le _⟩) (Cv.mem (.cons (t := 5) (Has.t' rfl ?_) (.cons (t := 4) (Has.t' rfl ?_) (.cons (t := 3) (Has.t' rfl ?_) (.cons (t := 0) (Has.t rfl) (.cons (t := 2) (Has.t rfl) .nil))))) ?_) ?_
  · rfl
  · rfl
  · rfl
  · rfl
  rintro ⟨⟨i, c, g⟩, hI⟩ K6 hK6
  refine Tri.cv (Cv.wk (.cons (t := 5) (Has.t rfl) (.cons (t := 4) (Has.t rfl) (.cons (t := 3) (Has.t rfl) (.cons (t := 0) (Has.t rfl) (.cons (t := 2) (Has.t rfl) .nil)))))) ?_
  refine Tri.memEq (M' := [grM isN g (digsN i (dval ds))]) rfl ?_
  simp only [] at hI
  obtain ⟨h1, h2, h3⟩ := hI
  have hst := carry_step h1
  have hg := getD_le (i := i) hd
  have hdl := d_wordsN_len i (dval ds)
  refine Tri.seq fun K7 hK7 => ?_
  refine Tri.seq fun K8 hK8 => ?_
  refine Tri.region ?_
  refine st (OK1.mv (Has.t rfl)) rfl ?_
  refine st (OK1.mv (Has.t rfl)) rfl ?_
  refine st (OK1.len sl32 (Has.t rfl)) rfl ?_
  refine st (OK1.ltI (Has.t rfl) (Has.t rfl)) rfl ?_
  refine st (OK1.mv (Has.t rfl)) rfl ?_
  refine stF rfl rfl (fun hg => have hg' := BP.t hg; OK1.mv (Has.t rfl)) rfl ?_
  refine stF rfl rfl (fun hg => have hg' := BP.t hg; OK1.gtI (Has.g rfl hg) (Has.cI 0 rfl)) rfl ?_
  refine st (OK1.pickOr (Has.t rfl) (fun h => Has.g rfl (ng h))) rfl ?_
  refine nl ?_
  refine At.thn (hK8 _ _ ?_); clear hK8
  refine Tri.cond (Has.t rfl) (fun hc1 => ?_) (fun hc1 => ?_)
  · have hc1 := BP.t hc1
    have hlt2 : i < ds.length + 4 := by
      rcases Nat.lt_or_ge i (ds.length + 4) with h | h
      · exact h
      · have := carry_zero h1 hd h; omega
    refine Tri.skip ?_
    refine At.thn (hK7 _ _ ?_); clear hK7
    refine Tri.seq fun K9 hK9 => ?_
    refine Tri.block ?_
    refine Tri.seq fun K10 hK10 => ?_
    refine Tri.region ?_
    refine st (OK1.mv (Has.t rfl)) rfl ?_
    refine st (OK1.mv (Has.t rfl)) rfl ?_
    refine st (OK1.mv (Has.t rfl)) rfl ?_
    refine st (OK1.call (ref01_at) (.cons (Has.t rfl) (.cons (Has.t rfl) .nil))) rfl ?_
    refine st (OK1.eq (OK1.addI (Has.t rfl) (Has.t rfl) (by first | with_reducible assumption | omega | with_reducible exact d_wordsN_ok _ _) (by first | with_reducible assumption | omega | with_reducible exact d_wordsN_ok _ _)) ((show isI _ = isN (c + ds.getD i 0) from isI_eq (by omega)))) rfl ?_
    refine st (OK1.as (Has.t rfl)) rfl ?_
    refine nl ?_
    refine At.thn (hK10 _ _ ?_); clear hK10
    refine Tri.seq fun K11 hK11 => ?_
    refine Tri.region ?_
    refine st (OK1.mv (Has.t rfl)) rfl ?_
    refine st (OK1.mv (Has.t rfl)) rfl ?_
    refine st (OK1.eq (OK1.remI (Has.t rfl) (Has.cI 65536 rfl) (by first | with_reducible assumption | omega | with_reducible exact d_wordsN_ok _ _) (by first | with_reducible assumption | omega | with_reducible exact d_wordsN_ok _ _) (by first | with_reducible assumption | omega | with_reducible exact d_wordsN_ok _ _)) ((show isI _ = isN (dg (dval ds) i) from isI_eq (by have := hst.1; omega)))) rfl ?_
    refine st (OK1.buildS [isI 0] sl32 ty3 zero3 (fun _ _ => ⟨⟨rfl, by decide, by decide⟩, trivial⟩) rfl rfl (.cons (Has.t rfl) rfl rfl rfl .nil) rfl (S := SlM isN [_]) rfl) rfl ?_
    refine Ops.appendG (f := isN) (u := 0) sl32 ty3 zero3 (fun _ _ => ⟨⟨rfl, by decide, by decide⟩, trivial⟩) (fun _ => inferInstance) by3 (Has.t rfl) (i := 0) rfl (Has.t rfl) (by simp only [List.length_cons, List.length_nil]; omega) (by simp) rfl fun gr1 => ?_
    refine Ops.memEq (M' := [grM _ _ _]) rfl ?_
    refine st (OK1.as (Has.t rfl)) rfl ?_
    refine nl ?_
    refine At.thn (hK11 _ _ ?_); clear hK11
    refine Tri.region ?_
    refine st (OK1.mv (Has.t rfl)) rfl ?_
    refine st (OK1.eq (OK1.quoI (Has.t rfl) (Has.cI 65536 rfl) (by first | with_reducible assumption | omega | with_reducible exact d_wordsN_ok _ _) (by first | with_reducible assumption | omega | with_reducible exact d_wordsN_ok _ _) (by first | with_reducible assumption | omega | with_reducible exact d_wordsN_ok _ _)) ((show isI _ = isN ((c + ds.getD i 0) / 65536) from isI_eq (by omega)))) rfl ?_
    refine st (OK1.as (Has.t rfl)) rfl ?_
    refine nl ?_
    refine At.bln ?_
    refine At.thn (hK9 _ _ ?_); clear hK9
    refine Tri.region ?_
    refine st (OK1.mv (Has.t rfl)) rfl ?_
    refine st (OK1.addI (Has.t rfl) (Has.cI 1 rfl) (by first | with_reducible assumption | omega | with_reducible exact d_wordsN_ok _ _) (by first | with_reducible assumption | omega | with_reducible exact d_wordsN_ok _ _)) rfl ?_
    refine st (OK1.as (Has.t rfl)) rfl ?_
    refine nl ?_
    refine At.thn ?_
    have hlt : i < ds.length + 4 := by
      rcases Nat.lt_or_ge i (ds.length + 4) with h | h
      · exact h
      · have := carry_zero h1 hd h; omega
    refine hK6 (⟨(i + 1, (c + ds.getD i 0) / 65536, gr1), hst.2, by show (c + ds.getD i 0) / 65536 ≤ _; omega, by show i + 1 ≤ _; omega⟩) _ _ ?_ (Cv.mem (.cons (t := 5) (Has.t' rfl ?_) (.cons (t := 4) (Has.t' rfl ?_) (.cons (t := 3) (Has.t' rfl ?_) (.cons (t := 0) (Has.t rfl) (.cons (t := 2) (Has.t rfl) .nil))))) ?_)
    · exact carry_mu h1 (by omega)
    · rfl
    · rfl
    · exact isGr_eq (by simp only [List.length_append, d_wordsN_len, wordsN_len, addL_len, List.length_cons, List.length_nil] <;> omega)
    · exact grM_eq (d_wordsN_succ _ _).symm
  · have hc1 := BP.f hc1
    refine Tri.exit ?_
    refine At.the ?_
    refine At.the ?_
    refine At.blh ?_
    refine At.thn (hK4 _ _ ?_); clear hK4
    refine Tri.cv (Cv.wk (.cons (t := 2) (Has.t rfl) (.cons (t := 3) (Has.t rfl) .nil))) ?_
    refine Tri.seq fun K12 hK12 => ?_
    refine Tri.cv (Cv.freezeG (t := 3) (i := 0) (ys := digsN i (dval ds)) rfl rfl rfl) ?_
    refine Tri.memEq (M' := []) rfl ?_
    refine Tri.cv (Cv.wk (.cons (t := 2) (Has.t rfl) (.cons (t := 3) (Has.t rfl) .nil))) ?_
    refine Tri.region ?_
    refine st (OK1.mv (Has.t rfl)) rfl ?_
    refine st (OK1.call (ref01_Trim (by first | with_reducible assumption | omega | with_reducible exact d_wordsN_ok _ _)) (.cons (Has.t rfl) .nil)) rfl ?_
    refine st (OK1.as (Has.t rfl)) rfl ?_
    refine nl ?_
    refine At.thn (hK12 _ _ ?_); clear hK12
    refine Tri.ret ?_
    refine rt1 (.inl rfl) Try.results177 rfl (.tmp (Has.t' rfl ?_) .nil)
    all_goals (obtain rfl : c = 0 := (by omega); exact SlM_eq (carry_end h1 (by omega)))

set_option maxHeartbeats 4000000 in
theorem ref01_Add {m n : Nat} (hm : (List.length (digs m)) ≤ 536870912) (hn : (List.length (digs n)) ≤ 536870912) : Ctr Try.prog 160 [SlM isN (digs m), SlM isN (digs n)] (SlM isN (digs (m + n))) := by
  refine Ctr.intro Try.func160 rfl (by kernel_rfl) Try.ntmps160 rfl fun w0 F0 => ?_
  refine Tri.cv (Cv.wk (.cons (t := 0) (Has.t rfl) (.cons (t := 1) (Has.t rfl) .nil))) ?_
  refine Tri.fact (Has.lenLt (Has.t (t := 0) rfl)) fun lt0 => ?_
  refine Tri.fact (Has.lenLt (Has.t (t := 1) rfl)) fun lt1 => ?_
  refine Tri.seq fun K1 hK1 => ?_
  refine Tri.region ?_
  refine st (OK1.as (Has.cW (f := isN))) rfl ?_
  refine nl ?_
  refine At.thn (hK1 _ _ ?_); clear hK1
  refine Tri.seq fun K2 hK2 => ?_
  refine Tri.region ?_
  refine Ops.cv (Cv.grow0 (α := Nat) isN) ?_
  refine st (OK1.as (Has.cGr (α := Nat))) rfl ?_
  refine nl ?_
  refine At.thn (hK2 _ _ ?_); clear hK2
  refine Tri.seq fun K3 hK3 => ?_
  refine Tri.seq fun K4 hK4 => ?_
  refine Tri.region ?_
  refine st (OK1.as (Has.cI 0 rfl)) rfl ?_
  refine nl ?_
  refine At.thn (hK4 _ _ ?_); clear hK4
  refine Tri.block ?_
  refine Tri.loopF [0, 1, 4] (fun (z : { z : Nat × Gr Nat // z.1 ≤ max ((List.length (digs m))) ((List.length (digs n))) }) => match z with | ⟨(i, g), hI⟩ => [(6, isI (i : Int)), (5, isGr g (addL m n i).length)]) (fun M => fun (z : { z : Nat × Gr Nat // z.1 ≤ max ((List.length (digs m))) ((List.length (digs n))) }) => match z with | ⟨(i, g), hI⟩ => [grM isN g (addL m n i)]) (fun (z : { z : Nat × Gr Nat // z.1 ≤ max ((List.length (digs m))) ((List.length (digs n))) }) => match z with | ⟨(i, g), hI⟩ => max ((List.length (digs m))) ((List.length (digs n))) - i) (⟨(0, Gr.nil), Nat.zero_le _⟩) (Cv.mem (.cons (t := 6) (Has.t' rfl ?_) (.cons (t := 5) (Has.t' rfl ?_) (.cons (t := 0) (Has.t rfl) (.cons (t := 1) (Has.t rfl) (.cons (t := 4) (Has.t rfl) .nil))))) ?_) ?_
  · rfl
  · rfl
  · rfl
  rintro ⟨⟨i, g⟩, hI⟩ K5 hK5
  refine Tri.cv (Cv.wk (.cons (t := 6) (Has.t rfl) (.cons (t := 5) (Has.t rfl) (.cons (t := 0) (Has.t rfl) (.cons (t := 1) (Has.t rfl) (.cons (t := 4) (Has.t rfl) .nil)))))) ?_
  refine Tri.memEq (M' := [grM isN g (addL m n i)]) rfl ?_
  simp only [] at hI
  have hal := addL_len m n i
  have b1 := d_dig_lt m i
  have b2 := d_dig_lt n i
  unfold D at b1 b2
  refine Tri.seq fun K6 hK6 => ?_
  refine Tri.seq fun K7 hK7 => ?_
  refine Tri.region ?_
  refine st (OK1.mv (Has.t rfl)) rfl ?_
  refine st (OK1.mv (Has.t rfl)) rfl ?_
  refine st (OK1.len sl32 (Has.t rfl)) rfl ?_
  refine st (OK1.ltI (Has.t rfl) (Has.t rfl)) rfl ?_
  refine st (OK1.mv (Has.t rfl)) rfl ?_
  refine stF rfl rfl (fun hg => have hg' := BP.t hg; OK1.mv (Has.t rfl)) rfl ?_
  refine stF rfl rfl (fun hg => have hg' := BP.t hg; OK1.mv (Has.t rfl)) rfl ?_
  refine stF rfl rfl (fun hg => have hg' := BP.t hg; OK1.len sl32 (Has.g rfl hg)) rfl ?_
  refine stF rfl rfl (fun hg => have hg' := BP.t hg; OK1.ltI (Has.g rfl hg) (Has.g rfl hg)) rfl ?_
  refine st (OK1.pickOr (Has.t rfl) (fun h => Has.g rfl (ng h))) rfl ?_
  refine nl ?_
  refine At.thn (hK7 _ _ ?_); clear hK7
  refine Tri.cond (Has.t rfl) (fun hc1 => ?_) (fun hc1 => ?_)
  · have hc1 := BP.t hc1
    refine Tri.skip ?_
    refine At.thn (hK6 _ _ ?_); clear hK6
    refine Tri.seq fun K8 hK8 => ?_
    refine Tri.block ?_
    refine Tri.region ?_
    refine st (OK1.mv (Has.t rfl)) rfl ?_
    refine st (OK1.mv (Has.t rfl)) rfl ?_
    refine st (OK1.mv (Has.t rfl)) rfl ?_
    refine st (OK1.eq (OK1.call (ref01_at) (.cons (Has.t rfl) (.cons (Has.t rfl) .nil))) ((show isI _ = isN (dg m i) from isI_eq (by rw [d_getD_words])))) rfl ?_
    refine st (OK1.mv (Has.t rfl)) rfl ?_
    refine st (OK1.mv (Has.t rfl)) rfl ?_
    refine st (OK1.eq (OK1.call (ref01_at) (.cons (Has.t rfl) (.cons (Has.t rfl) .nil))) ((show isI _ = isN (dg n i) from isI_eq (by rw [d_getD_words])))) rfl ?_
    refine st (OK1.eq (OK1.addI (Has.t rfl) (Has.t rfl) (by first | with_reducible assumption | omega | with_reducible exact addL_le _ _ _ | (rw [addL_len]; omega)) (by first | with_reducible assumption | omega | with_reducible exact addL_le _ _ _ | (rw [addL_len]; omega))) ((show isI _ = isN (dg m i + dg n i) from isI_eq (by omega)))) rfl ?_
    refine st (OK1.buildS [isI 0] sl32 ty3 zero3 (fun _ _ => ⟨⟨rfl, by decide, by decide⟩, trivial⟩) rfl rfl (.cons (Has.t rfl) rfl rfl rfl .nil) rfl (S := SlM isN [_]) rfl) rfl ?_
    refine Ops.appendG (f := isN) (u := 0) sl32 ty3 zero3 (fun _ _ => ⟨⟨rfl, by decide, by decide⟩, trivial⟩) (fun _ => inferInstance) by3 (Has.t rfl) (i := 0) rfl (Has.t rfl) (by simp only [List.length_cons, List.length_nil]; omega) (by simp) rfl fun gr1 => ?_
    refine Ops.memEq (M' := [grM _ _ _]) rfl ?_
    refine st (OK1.as (Has.t rfl)) rfl ?_
    refine nl ?_
    refine At.bln ?_
    refine At.thn (hK8 _ _ ?_); clear hK8
    refine Tri.region ?_
    refine st (OK1.mv (Has.t rfl)) rfl ?_
    refine st (OK1.addI (Has.t rfl) (Has.cI 1 rfl) (by first | with_reducible assumption | omega | with_reducible exact addL_le _ _ _ | (rw [addL_len]; omega)) (by first | with_reducible assumption | omega | with_reducible exact addL_le _ _ _ | (rw [addL_len]; omega))) rfl ?_
    refine st (OK1.as (Has.t rfl)) rfl ?_
    refine nl ?_
    refine At.thn ?_
    refine hK5 (⟨(i + 1, gr1), by show i + 1 ≤ _; omega⟩) _ _ ?_ (Cv.mem (.cons (t := 6) (Has.t' rfl ?_) (.cons (t := 5) (Has.t' rfl ?_) (.cons (t := 0) (Has.t rfl) (.cons (t := 1) (Has.t rfl) (.cons (t := 4) (Has.t rfl) .nil))))) ?_)
    · show max ((List.length (digs m))) ((List.length (digs n))) - (i + 1) < max ((List.length (digs m))) ((List.length (digs n))) - i; omega
    · rfl
    · exact isGr_eq (by simp only [List.length_append, d_wordsN_len, wordsN_len, addL_len, List.length_cons, List.length_nil] <;> omega)
    · exact grM_eq (addL_succ _ _ _).symm
  · have hc1 := BP.f hc1
    refine Tri.exit ?_
    refine At.the ?_
    refine At.the ?_
    refine At.blh ?_
    refine At.thn (hK3 _ _ ?_); clear hK3
    refine Tri.cv (Cv.wk (.cons (t := 4) (Has.t rfl) (.cons (t := 5) (Has.t rfl) .nil))) ?_
    refine Tri.seq fun K9 hK9 => ?_
    refine Tri.cv (Cv.freezeG (t := 5) (i := 0) (ys := addL m n i) rfl rfl rfl) ?_
    refine Tri.memEq (M' := []) rfl ?_
    refine Tri.cv (Cv.wk (.cons (t := 4) (Has.t rfl) (.cons (t := 5) (Has.t rfl) .nil))) ?_
    refine Tri.region ?_
    refine st (OK1.mv (Has.t rfl)) rfl ?_
    refine st (OK1.call (ref01_Carried (by first | with_reducible assumption | omega | with_reducible exact addL_le _ _ _ | (rw [addL_len]; omega)) (by first | with_reducible assumption | omega | with_reducible exact addL_le _ _ _ | (rw [addL_len]; omega))) (.cons (Has.t rfl) .nil)) rfl ?_
    refine st (OK1.as (Has.t rfl)) rfl ?_
    refine nl ?_
    refine At.thn (hK9 _ _ ?_); clear hK9
    refine Tri.ret ?_
    refine rt1 (.inl rfl) Try.results160 rfl (.tmp (Has.t' rfl ?_) .nil)
    all_goals (exact SlM_eq (addL_end (by omega) (by omega)))

theorem bit_lt (n i k : Nat) : ((dg n i / 2 ^ k : Nat) : Int) < 9223372036854775808 := by
  have h1 := d_dig_lt n i
  have h2 := Nat.div_le_self (dg n i) (2 ^ k)
  unfold D at h1
  generalize dg n i / 2 ^ k = x at *
  omega
theorem zero_nd (n : Nat) : (((List.length (digs n)) : Nat) : Int) = 0 ↔ n = 0 := by
  constructor
  · intro h
    have h2 : digs n = [] := List.eq_nil_of_length_eq_zero (by omega)
    have := d_val_words n
    rw [h2] at this; exact this.symm
  · intro h; rw [h, d_words_zero]; rfl


set_option maxHeartbeats 4000000 in
theorem ref01_Sub {m n : Nat} (hle : n ≤ m) (hm : (List.length (digs m)) ≤ 1073741824) : Ctr Try.prog 163 [SlM isN (digs m), SlM isN (digs n)] (SlM isN (digs (m - n))) := by
  refine Ctr.intro Try.func163 rfl (by kernel_rfl) Try.ntmps163 rfl fun w0 F0 => ?_
  refine Tri.cv (Cv.wk (.cons (t := 0) (Has.t rfl) (.cons (t := 1) (Has.t rfl) .nil))) ?_
  refine Tri.fact (Has.lenLt (Has.t (t := 0) rfl)) fun lt0 => ?_
  refine Tri.fact (Has.lenLt (Has.t (t := 1) rfl)) fun lt1 => ?_
  refine Tri.seq fun K1 hK1 => ?_
  refine Tri.region ?_
  refine st (OK1.as (Has.cW (f := isN))) rfl ?_
  refine nl ?_
  refine At.thn (hK1 _ _ ?_); clear hK1
  refine Tri.seq fun K2 hK2 => ?_
  refine Tri.region ?_
  refine Ops.cv (Cv.grow0 (α := Nat) isN) ?_
  refine st (OK1.as (Has.cGr (α := Nat))) rfl ?_
  refine nl ?_
  refine At.thn (hK2 _ _ ?_); clear hK2
  refine Tri.seq fun K3 hK3 => ?_
  refine Tri.region ?_
  refine st (OK1.as (Has.cI 0 rfl)) rfl ?_
  refine nl ?_
  refine At.thn (hK3 _ _ ?_); clear hK3
  refine Tri.seq fun K4 hK4 => ?_
  refine Tri.seq fun K5 hK5 => ?_
  refine Tri.region ?_
  refine st (OK1.as (Has.cI 0 rfl)) rfl ?_
  refine nl ?_
  refine At.thn (hK5 _ _ ?_); clear hK5
  refine Tri.block ?_
  refine Tri.loopF [0, 1, 4] (fun (z : { z : Nat × Gr Nat // z.1 ≤ (List.length (digs m)) }) => match z with | ⟨(i, g), hI⟩ => [(7, isI (i : Int)), (6, isN (dbor m n i)), (5, isGr g (digsN i (m - n)).length)]) (fun M => fun (z : { z : Nat × Gr Nat // z.1 ≤ (List.length (digs m)) }) => match z with | ⟨(i, g), hI⟩ => [grM isN g (digsN i (m - n))]) (fun (z : { z : Nat × Gr Nat // z.1 ≤ (List.length (digs m)) }) => match z with | ⟨(i, g), hI⟩ => (List.length (digs m)) - i) (⟨(0, Gr.nil), Nat.zero_le _⟩) (Cv.mem (.cons (t := 7) (Has.t' rfl ?_) (.cons (t := 6) (Has.t' rfl ?_) (.cons (t := 5) (Has.t' rfl ?_) (.cons (t := 0) (Has.t rfl) (.cons (t := 1) (Has.t rfl) (.cons (t := 4) (Has.t rfl) .nil)))))) ?_) ?_
  · rfl
  · exact isI_eq (by rw [← d_bor_zero]; rfl)
  · rfl
  · rfl
  rintro ⟨⟨i, g⟩, hI⟩ K6 hK6
  refine Tri.cv (Cv.wk (.cons (t := 7) (Has.t rfl) (.cons (t := 6) (Has.t rfl) (.cons (t := 5) (Has.t rfl) (.cons (t := 0) (Has.t rfl) (.cons (t := 1) (Has.t rfl) (.cons (t := 4) (Has.t rfl) .nil))))))) ?_
  refine Tri.memEq (M' := [grM isN g (digsN i (m - n))]) rfl ?_
  simp only [] at hI
  have hdl := d_wordsN_len i (m - n)
  have b1 := d_dig_lt m i
  have b2 := d_dig_lt n i
  have b3 := d_bor_le m n i
  have hsd := d_sub_dig hle i
  have hbs := dbor_eq m n i
  unfold D at b1 b2 hsd
  refine Tri.seq fun K7 hK7 => ?_
  refine Tri.seq fun K8 hK8 => ?_
  refine Tri.region ?_
  refine st (OK1.mv (Has.t rfl)) rfl ?_
  refine st (OK1.mv (Has.t rfl)) rfl ?_
  refine st (OK1.len sl32 (Has.t rfl)) rfl ?_
  refine st (OK1.ltI (Has.t rfl) (Has.t rfl)) rfl ?_
  refine nl ?_
  refine At.thn (hK8 _ _ ?_); clear hK8
  refine Tri.cond (Has.t rfl) (fun hc1 => ?_) (fun hc1 => ?_)
  · have hc1 := BP.t hc1
    refine Tri.skip ?_
    refine At.thn (hK7 _ _ ?_); clear hK7
    refine Tri.seq fun K9 hK9 => ?_
    refine Tri.block ?_
    refine Tri.seq fun K10 hK10 => ?_
    refine Tri.dr ?_
    refine DrG.st (i := 0) [] rfl rfl rfl (by kernel_rfl) (OKG.o rfl (OK1.mv (Has.t rfl))) ?_
    refine DrG.st (i := 1) [] rfl rfl rfl (by kernel_rfl) (OKG.o rfl (OK1.mv (Has.t rfl))) ?_
    refine DrG.st (i := 2) [15, 16] rfl rfl rfl (by kernel_rfl) (OKG.o rfl (OK1.ixP sl32 ty3 (Has.t rfl) (Has.t rfl) ⟨by omega, by omega⟩ (getD_some (d := 0) (by first | omega | (simp only [Int.toNat_natCast, List.length_set]; omega))))) ?_
    refine DrG.st (i := 3) [17] rfl rfl rfl (by kernel_rfl) (OKG.o rfl (OK1.eq (OK1.loadP1 (Has.t rfl) ty3) ((show isI _ = isN (dg m i) from isI_eq (by rw [Int.toNat_natCast, d_getD_words]))))) ?_
    refine DrG.st (i := 4) [] rfl rfl rfl (by kernel_rfl) (OKG.o rfl (OK1.mv (Has.t rfl))) ?_
    refine DrG.st (i := 5) [] rfl rfl rfl (by kernel_rfl) (OKG.o rfl (OK1.mv (Has.t rfl))) ?_
    refine DrG.st (i := 6) [19, 20] rfl rfl rfl (by kernel_rfl) (OKG.o rfl (OK1.eq (OK1.call (ref01_at) (.cons (Has.t rfl) (.cons (Has.t rfl) .nil))) ((show isI _ = isN (dg n i) from isI_eq (by rw [d_getD_words]))))) ?_
    refine DrG.st (i := 7) [18, 21] rfl rfl rfl (by kernel_rfl) (OKG.o rfl (OK1.subI (Has.t rfl) (Has.t rfl) (by first | with_reducible assumption | omega | with_reducible exact d_words_ok _ | with_reducible exact d_wordsN_ok _ _ | (simp only [d_val_words]; omega)) (by first | with_reducible assumption | omega | with_reducible exact d_words_ok _ | with_reducible exact d_wordsN_ok _ _ | (simp only [d_val_words]; omega)))) ?_
    refine DrG.st (i := 8) [] rfl rfl rfl (by kernel_rfl) (OKG.o rfl (OK1.mv (Has.t rfl))) ?_
    refine DrG.fin (n := 9) mixed (by kernel_rfl) (by kernel_rfl) (by kernel_rfl) ?_
    refine Ops.cv (Cv.wk (.cons (t := 0) (Has.t rfl) (.cons (t := 1) (Has.t rfl) (.cons (t := 4) (Has.t rfl) (.cons (t := 7) (Has.t rfl) (.cons (t := 6) (Has.t rfl) (.cons (t := 5) (Has.t rfl) (.cons (t := 9) (Has.t rfl) (.cons (t := 10) (Has.t rfl) (.cons (t := 11) (Has.t rfl) (.cons (t := 12) (Has.t rfl) (.cons (t := 15) (Has.t rfl) (.cons (t := 16) (Has.t rfl) (.cons (t := 17) (Has.t rfl) (.cons (t := 18) (Has.t rfl) (.cons (t := 19) (Has.t rfl) (.cons (t := 20) (Has.t rfl) (.cons (t := 21) (Has.t rfl) (.cons (t := 22) (Has.t rfl) (.cons (t := 23) (Has.t rfl) .nil)))))))))))))))))))) ?_
    refine st (OK1.subI (Has.t rfl) (Has.t rfl) (by first | with_reducible assumption | omega | with_reducible exact d_words_ok _ | with_reducible exact d_wordsN_ok _ _ | (simp only [d_val_words]; omega)) (by first | with_reducible assumption | omega | with_reducible exact d_words_ok _ | with_reducible exact d_wordsN_ok _ _ | (simp only [d_val_words]; omega))) rfl ?_
    refine st (OK1.as (Has.t rfl)) rfl ?_
    refine nl ?_
    refine At.thn (hK10 _ _ ?_); clear hK10
    refine Tri.seq fun K11 hK11 => ?_
    refine Tri.region ?_
    refine st (OK1.as (Has.cI 0 rfl)) rfl ?_
    refine nl ?_
    refine At.thn (hK11 _ _ ?_); clear hK11
    refine Tri.seq fun K12 hK12 => ?_
    refine Tri.seq fun K13 hK13 => ?_
    refine Tri.region ?_
    refine st (OK1.mv (Has.t rfl)) rfl ?_
    refine st (OK1.ltI (Has.t rfl) (Has.cI 0 rfl)) rfl ?_
    refine nl ?_
    refine At.thn (hK13 _ _ ?_); clear hK13
    refine Tri.cond (Has.t rfl) (fun hc2 => ?_) (fun hc2 => ?_)
    · have hc2 := BP.t hc2
      refine Tri.seq fun K14 hK14 => ?_
      refine Tri.region ?_
      refine st (OK1.mv (Has.t rfl)) rfl ?_
      refine st (OK1.addI (Has.t rfl) (Has.cI 65536 rfl) (by first | with_reducible assumption | omega | with_reducible exact d_words_ok _ | with_reducible exact d_wordsN_ok _ _ | (simp only [d_val_words]; omega)) (by first | with_reducible assumption | omega | with_reducible exact d_words_ok _ | with_reducible exact d_wordsN_ok _ _ | (simp only [d_val_words]; omega))) rfl ?_
      refine st (OK1.as (Has.t rfl)) rfl ?_
      refine nl ?_
      refine At.thn (hK14 _ _ ?_); clear hK14
      refine Tri.region ?_
      refine st (OK1.as (Has.cI 1 rfl)) rfl ?_
      refine nl ?_
      refine At.thn (hK12 _ _ ?_); clear hK12
      refine Tri.region ?_
      refine st (OK1.mv (Has.t rfl)) rfl ?_
      refine st (OK1.eq (OK1.mv (Has.t rfl)) ((show isI _ = isN (dg (m - n) i) from isI_eq (by omega)))) rfl ?_
      refine st (OK1.buildS [isI 0] sl32 ty3 zero3 (fun _ _ => ⟨⟨rfl, by decide, by decide⟩, trivial⟩) rfl rfl (.cons (Has.t rfl) rfl rfl rfl .nil) rfl (S := SlM isN [_]) rfl) rfl ?_
      refine Ops.appendG (f := isN) (u := 0) sl32 ty3 zero3 (fun _ _ => ⟨⟨rfl, by decide, by decide⟩, trivial⟩) (fun _ => inferInstance) by3 (Has.t rfl) (i := 0) rfl (Has.t rfl) (by simp only [List.length_cons, List.length_nil]; omega) (by simp) rfl fun gr1 => ?_
      refine Ops.memEq (M' := [grM _ _ _]) rfl ?_
      refine st (OK1.as (Has.t rfl)) rfl ?_
      refine nl ?_
      refine At.bln ?_
      refine At.thn (hK9 _ _ ?_); clear hK9
      refine Tri.region ?_
      refine st (OK1.mv (Has.t rfl)) rfl ?_
      refine st (OK1.addI (Has.t rfl) (Has.cI 1 rfl) (by first | with_reducible assumption | omega | with_reducible exact d_words_ok _ | with_reducible exact d_wordsN_ok _ _ | (simp only [d_val_words]; omega)) (by first | with_reducible assumption | omega | with_reducible exact d_words_ok _ | with_reducible exact d_wordsN_ok _ _ | (simp only [d_val_words]; omega))) rfl ?_
      refine st (OK1.as (Has.t rfl)) rfl ?_
      refine nl ?_
      refine At.thn ?_
      refine hK6 (⟨(i + 1, gr1), by show i + 1 ≤ _; omega⟩) _ _ ?_ (Cv.mem (.cons (t := 7) (Has.t' rfl ?_) (.cons (t := 6) (Has.t' rfl ?_) (.cons (t := 5) (Has.t' rfl ?_) (.cons (t := 0) (Has.t rfl) (.cons (t := 1) (Has.t rfl) (.cons (t := 4) (Has.t rfl) .nil)))))) ?_)
      · show (List.length (digs m)) - (i + 1) < (List.length (digs m)) - i; omega
      · rfl
      · exact isI_eq (by show _ = ((dbor m n (i + 1) : Nat) : Int); rw [hbs, if_pos (by omega)]; rfl)
      · exact isGr_eq (by simp only [List.length_append, d_wordsN_len, wordsN_len, addL_len, List.length_cons, List.length_nil] <;> omega)
      · exact grM_eq (d_wordsN_succ _ _).symm
    · have hc2 := BP.f hc2
      refine Tri.skip ?_
      refine At.thn (hK12 _ _ ?_); clear hK12
      refine Tri.region ?_
      refine st (OK1.mv (Has.t rfl)) rfl ?_
      refine st (OK1.eq (OK1.mv (Has.t rfl)) ((show isI _ = isN (dg (m - n) i) from isI_eq (by omega)))) rfl ?_
      refine st (OK1.buildS [isI 0] sl32 ty3 zero3 (fun _ _ => ⟨⟨rfl, by decide, by decide⟩, trivial⟩) rfl rfl (.cons (Has.t rfl) rfl rfl rfl .nil) rfl (S := SlM isN [_]) rfl) rfl ?_
      refine Ops.appendG (f := isN) (u := 0) sl32 ty3 zero3 (fun _ _ => ⟨⟨rfl, by decide, by decide⟩, trivial⟩) (fun _ => inferInstance) by3 (Has.t rfl) (i := 0) rfl (Has.t rfl) (by simp only [List.length_cons, List.length_nil]; omega) (by simp) rfl fun gr1 => ?_
      refine Ops.memEq (M' := [grM _ _ _]) rfl ?_
      refine st (OK1.as (Has.t rfl)) rfl ?_
      refine nl ?_
      refine At.bln ?_
      refine At.thn (hK9 _ _ ?_); clear hK9
      refine Tri.region ?_
      refine st (OK1.mv (Has.t rfl)) rfl ?_
      refine st (OK1.addI (Has.t rfl) (Has.cI 1 rfl) (by first | with_reducible assumption | omega | with_reducible exact d_words_ok _ | with_reducible exact d_wordsN_ok _ _ | (simp only [d_val_words]; omega)) (by first | with_reducible assumption | omega | with_reducible exact d_words_ok _ | with_reducible exact d_wordsN_ok _ _ | (simp only [d_val_words]; omega))) rfl ?_
      refine st (OK1.as (Has.t rfl)) rfl ?_
      refine nl ?_
      refine At.thn ?_
      refine hK6 (⟨(i + 1, gr1), by show i + 1 ≤ _; omega⟩) _ _ ?_ (Cv.mem (.cons (t := 7) (Has.t' rfl ?_) (.cons (t := 6) (Has.t' rfl ?_) (.cons (t := 5) (Has.t' rfl ?_) (.cons (t := 0) (Has.t rfl) (.cons (t := 1) (Has.t rfl) (.cons (t := 4) (Has.t rfl) .nil)))))) ?_)
      · show (List.length (digs m)) - (i + 1) < (List.length (digs m)) - i; omega
      · rfl
      · exact isI_eq (by show _ = ((dbor m n (i + 1) : Nat) : Int); rw [hbs, if_neg (by omega)]; rfl)
      · exact isGr_eq (by simp only [List.length_append, d_wordsN_len, wordsN_len, addL_len, List.length_cons, List.length_nil] <;> omega)
      · exact grM_eq (d_wordsN_succ _ _).symm
  · have hc1 := BP.f hc1
    refine Tri.exit ?_
    refine At.the ?_
    refine At.the ?_
    refine At.blh ?_
    refine At.thn (hK4 _ _ ?_); clear hK4
    refine Tri.cv (Cv.wk (.cons (t := 4) (Has.t rfl) (.cons (t := 5) (Has.t rfl) .nil))) ?_
    refine Tri.seq fun K15 hK15 => ?_
    refine Tri.cv (Cv.freezeG (t := 5) (i := 0) (ys := digsN i (m - n)) rfl rfl rfl) ?_
    refine Tri.memEq (M' := []) rfl ?_
    refine Tri.cv (Cv.wk (.cons (t := 4) (Has.t rfl) (.cons (t := 5) (Has.t rfl) .nil))) ?_
    refine Tri.region ?_
    refine st (OK1.mv (Has.t rfl)) rfl ?_
    refine st (OK1.call (ref01_Trim (by first | with_reducible assumption | omega | with_reducible exact d_words_ok _ | with_reducible exact d_wordsN_ok _ _ | (simp only [d_val_words]; omega))) (.cons (Has.t rfl) .nil)) rfl ?_
    refine st (OK1.as (Has.t rfl)) rfl ?_
    refine nl ?_
    refine At.thn (hK15 _ _ ?_); clear hK15
    refine Tri.ret ?_
    refine rt1 (.inl rfl) Try.results163 rfl (.tmp (Has.t' rfl ?_) .nil)
    all_goals (exact SlM_eq (sub_end (by omega)))

set_option maxHeartbeats 4000000 in
theorem ref01_Cmp {m n : Nat} (hm : (List.length (digs m)) ≤ 1073741824) (hn : (List.length (digs n)) ≤ 1073741824) : Ctr Try.prog 162 [SlM isN (digs m), SlM isN (digs n)] (isI (cmpN m n)) := by
  refine Ctr.intro Try.func162 rfl (by kernel_rfl) Try.ntmps162 rfl fun w0 F0 => ?_
  refine Tri.cv (Cv.wk (.cons (t := 0) (Has.t rfl) (.cons (t := 1) (Has.t rfl) .nil))) ?_
  refine Tri.fact (Has.lenLt (Has.t (t := 0) rfl)) fun lt0 => ?_
  refine Tri.fact (Has.lenLt (Has.t (t := 1) rfl)) fun lt1 => ?_
  refine Tri.seq fun K1 hK1 => ?_
  refine Tri.region ?_
  refine st (OK1.as (Has.cI 0 rfl)) rfl ?_
  refine nl ?_
  refine At.thn (hK1 _ _ ?_); clear hK1
  refine Tri.seq fun K2 hK2 => ?_
  refine Tri.region ?_
  refine st (OK1.mv (Has.t rfl)) rfl ?_
  refine st (OK1.eq (OK1.call (ref01_Trim (by first | with_reducible assumption | omega | with_reducible exact d_words_ok _ | with_reducible exact d_wordsN_ok _ _ | (simp only [d_val_words]; omega))) (.cons (Has.t rfl) .nil)) (by simp only [d_val_words]; rfl)) rfl ?_
  refine st (OK1.mv (Has.t rfl)) rfl ?_
  refine st (OK1.eq (OK1.call (ref01_Trim (by first | with_reducible assumption | omega | with_reducible exact d_words_ok _ | with_reducible exact d_wordsN_ok _ _ | (simp only [d_val_words]; omega))) (.cons (Has.t rfl) .nil)) (by simp only [d_val_words]; rfl)) rfl ?_
  refine st (OK1.as (Has.t rfl)) rfl ?_
  refine st (OK1.as (Has.t rfl)) rfl ?_
  refine nl ?_
  refine At.thn (hK2 _ _ ?_); clear hK2
  refine Tri.cv (Cv.wk (.cons (t := 4) (Has.t rfl) (.cons (t := 5) (Has.t rfl) (.cons (t := 6) (Has.t rfl) .nil)))) ?_
  refine Tri.seq fun K3 hK3 => ?_
  refine Tri.seq fun K4 hK4 => ?_
  refine Tri.region ?_
  refine st (OK1.mv (Has.t rfl)) rfl ?_
  refine st (OK1.len sl32 (Has.t rfl)) rfl ?_
  refine st (OK1.mv (Has.t rfl)) rfl ?_
  refine st (OK1.len sl32 (Has.t rfl)) rfl ?_
  refine st (OK1.neI (Has.t rfl) (Has.t rfl)) rfl ?_
  refine nl ?_
  refine At.thn (hK4 _ _ ?_); clear hK4
  refine Tri.cond (Has.t rfl) (fun hc1 => ?_) (fun hc1 => ?_)
  · have hc1 := BP.t hc1
    refine Tri.seq fun K5 hK5 => ?_
    refine Tri.seq fun K6 hK6 => ?_
    refine Tri.region ?_
    refine st (OK1.mv (Has.t rfl)) rfl ?_
    refine st (OK1.len sl32 (Has.t rfl)) rfl ?_
    refine st (OK1.mv (Has.t rfl)) rfl ?_
    refine st (OK1.len sl32 (Has.t rfl)) rfl ?_
    refine st (OK1.ltI (Has.t rfl) (Has.t rfl)) rfl ?_
    refine nl ?_
    refine At.thn (hK6 _ _ ?_); clear hK6
    refine Tri.cv (Cv.wk (.cons (t := 4) (Has.t rfl) (.cons (t := 5) (Has.t rfl) (.cons (t := 6) (Has.t rfl) (.cons (t := 21) (Has.t rfl) .nil))))) ?_
    refine Tri.cond (Has.t rfl) (fun hc2 => ?_) (fun hc2 => ?_)
    · have hc2 := BP.t hc2
      refine Tri.seq fun K7 hK7 => ?_
      refine Tri.region ?_
      refine st (OK1.as (Has.cI (-1) rfl)) rfl ?_
      refine nl ?_
      refine At.thn (hK7 _ _ ?_); clear hK7
      refine Tri.ret ?_
      refine At.thr ?_
      refine At.thr ?_
      refine rt1 (.inl rfl) Try.results162 rfl (.tmp (Has.t' rfl ?_) .nil)
      all_goals (exact isI_eq (d_cmp_len_lt (show (digs _).length < (digs _).length by omega)))
    · have hc2 := BP.f hc2
      refine Tri.skip ?_
      refine At.thn (hK5 _ _ ?_); clear hK5
      refine Tri.seq fun K8 hK8 => ?_
      refine Tri.region ?_
      refine st (OK1.as (Has.cI 1 rfl)) rfl ?_
      refine nl ?_
      refine At.thn (hK8 _ _ ?_); clear hK8
      refine Tri.ret ?_
      refine At.thr ?_
      refine rt1 (.inl rfl) Try.results162 rfl (.tmp (Has.t' rfl ?_) .nil)
      all_goals (exact isI_eq (d_cmp_len_gt (show (digs _).length < (digs _).length by omega)))
  · have hc1 := BP.f hc1
    refine Tri.skip ?_
    refine At.thn (hK3 _ _ ?_); clear hK3
    refine Tri.cv (Cv.wk (.cons (t := 4) (Has.t rfl) (.cons (t := 5) (Has.t rfl) (.cons (t := 6) (Has.t rfl) .nil)))) ?_
    refine Tri.seq fun K9 hK9 => ?_
    refine Tri.seq fun K10 hK10 => ?_
    refine Tri.region ?_
    refine st (OK1.mv (Has.t rfl)) rfl ?_
    refine st (OK1.len sl32 (Has.t rfl)) rfl ?_
    refine st (OK1.subI (Has.t rfl) (Has.cI 1 rfl) (by first | with_reducible assumption | omega | with_reducible exact d_words_ok _ | with_reducible exact d_wordsN_ok _ _ | (simp only [d_val_words]; omega)) (by first | with_reducible assumption | omega | with_reducible exact d_words_ok _ | with_reducible exact d_wordsN_ok _ _ | (simp only [d_val_words]; omega))) rfl ?_
    refine st (OK1.as (Has.t rfl)) rfl ?_
    refine nl ?_
    refine At.thn (hK10 _ _ ?_); clear hK10
    refine Tri.block ?_
    refine Tri.loopF [5, 6] (fun (z : { k : Nat // k ≤ (List.length (digs m)) ∧ m / D ^ k = n / D ^ k }) => match z with | ⟨k, hI⟩ => [(7, isI ((k : Int) - 1))]) (fun M => fun (z : { k : Nat // k ≤ (List.length (digs m)) ∧ m / D ^ k = n / D ^ k }) => match z with | ⟨k, hI⟩ => M) (fun (z : { k : Nat // k ≤ (List.length (digs m)) ∧ m / D ^ k = n / D ^ k }) => match z with | ⟨k, hI⟩ => k) (⟨(List.length (digs m)), Nat.le_refl _, d_cmp_start (show (digs _).length = (digs _).length by omega)⟩) (Cv.mem (.cons (t := 7) (Has.t' rfl ?_) (.cons (t := 5) (Has.t rfl) (.cons (t := 6) (Has.t rfl) .nil))) ?_) ?_
    · rfl
    · rfl
    rintro ⟨k, hk, he⟩ K11 hK11
    refine Tri.cv (Cv.wk (.cons (t := 7) (Has.t rfl) (.cons (t := 5) (Has.t rfl) (.cons (t := 6) (Has.t rfl) .nil)))) ?_
    have ek : ((k : Int) - 1).toNat = k - 1 := by omega
    refine Tri.seq fun K12 hK12 => ?_
    refine Tri.seq fun K13 hK13 => ?_
    refine Tri.region ?_
    refine st (OK1.mv (Has.t rfl)) rfl ?_
    refine st (OK1.geI (Has.t rfl) (Has.cI 0 rfl)) rfl ?_
    refine nl ?_
    refine At.thn (hK13 _ _ ?_); clear hK13
    refine Tri.cond (Has.t rfl) (fun hc3 => ?_) (fun hc3 => ?_)
    · have hc3 := BP.t hc3
      refine Tri.skip ?_
      refine At.thn (hK12 _ _ ?_); clear hK12
      refine Tri.seq fun K14 hK14 => ?_
      refine Tri.block ?_
      refine Tri.seq fun K15 hK15 => ?_
      refine Tri.seq fun K16 hK16 => ?_
      refine Tri.dr ?_
      refine DrG.st (i := 0) [] rfl rfl rfl (by kernel_rfl) (OKG.o rfl (OK1.mv (Has.t rfl))) ?_
      refine DrG.st (i := 1) [] rfl rfl rfl (by kernel_rfl) (OKG.o rfl (OK1.mv (Has.t rfl))) ?_
      refine DrG.st (i := 2) [29, 30] rfl rfl rfl (by kernel_rfl) (OKG.o rfl (OK1.ixP sl32 ty3 (Has.t rfl) (Has.t rfl) ⟨by omega, by omega⟩ (getD_some (d := 0) (by first | omega | (simp only [Int.toNat_natCast, List.length_set]; omega))))) ?_
      refine DrG.st (i := 3) [31] rfl rfl rfl (by kernel_rfl) (OKG.o rfl (OK1.loadP1 (Has.t rfl) ty3)) ?_
      refine DrG.st (i := 4) [] rfl rfl rfl (by kernel_rfl) (OKG.o rfl (OK1.mv (Has.t rfl))) ?_
      refine DrG.st (i := 5) [] rfl rfl rfl (by kernel_rfl) (OKG.o rfl (OK1.mv (Has.t rfl))) ?_
      refine DrG.st (i := 6) [33, 34] rfl rfl rfl (by kernel_rfl) (OKG.o rfl (OK1.ixP sl32 ty3 (Has.t rfl) (Has.t rfl) ⟨by omega, by omega⟩ (getD_some (d := 0) (by first | omega | (simp only [Int.toNat_natCast, List.length_set]; omega))))) ?_
      refine DrG.st (i := 7) [35] rfl rfl rfl (by kernel_rfl) (OKG.o rfl (OK1.loadP1 (Has.t rfl) ty3)) ?_
      refine DrG.fin (n := 8) mixed (by kernel_rfl) (by kernel_rfl) (by kernel_rfl) ?_
      refine Ops.cv (Cv.wk (.cons (t := 5) (Has.t rfl) (.cons (t := 6) (Has.t rfl) (.cons (t := 7) (Has.t rfl) (.cons (t := 25) (Has.t rfl) (.cons (t := 26) (Has.t rfl) (.cons (t := 29) (Has.t rfl) (.cons (t := 30) (Has.t rfl) (.cons (t := 31) (Has.t rfl) (.cons (t := 32) (Has.t rfl) (.cons (t := 33) (Has.t rfl) (.cons (t := 34) (Has.t rfl) (.cons (t := 35) (Has.t rfl) (.cons (t := 36) (Has.t rfl) .nil)))))))))))))) ?_
      refine st (OK1.ltI (Has.t rfl) (Has.t rfl)) rfl ?_
      refine nl ?_
      refine At.thn (hK16 _ _ ?_); clear hK16
      refine Tri.cond (Has.t rfl) (fun hc4 => ?_) (fun hc4 => ?_)
      · have hc4 := BP.t hc4
        have HL := hc4
        refine Tri.seq fun K17 hK17 => ?_
        refine Tri.region ?_
        refine st (OK1.as (Has.cI (-1) rfl)) rfl ?_
        refine nl ?_
        refine At.thn (hK17 _ _ ?_); clear hK17
        refine Tri.ret ?_
        refine At.thr ?_
        refine At.blr ?_
        refine At.thr ?_
        refine At.thr ?_
        refine At.blr ?_
        refine At.thr ?_
        refine rt1 (.inl rfl) Try.results162 rfl (.tmp (Has.t' rfl ?_) .nil)
        all_goals (rw [ek] at HL; exact isI_eq (d_cmp_lt (by omega) he (by omega)))
      · have hc4 := BP.f hc4
        have HL := hc4
        refine Tri.skip ?_
        refine At.thn (hK15 _ _ ?_); clear hK15
        refine Tri.seq fun K18 hK18 => ?_
        refine Tri.dr ?_
        refine DrG.st (i := 0) [] rfl rfl rfl (by kernel_rfl) (OKG.o rfl (OK1.mv (Has.t rfl))) ?_
        refine DrG.st (i := 1) [] rfl rfl rfl (by kernel_rfl) (OKG.o rfl (OK1.mv (Has.t rfl))) ?_
        refine DrG.st (i := 2) [38, 39] rfl rfl rfl (by kernel_rfl) (OKG.o rfl (OK1.ixP sl32 ty3 (Has.t rfl) (Has.t rfl) ⟨by omega, by omega⟩ (getD_some (d := 0) (by first | omega | (simp only [Int.toNat_natCast, List.length_set]; omega))))) ?_
        refine DrG.st (i := 3) [40] rfl rfl rfl (by kernel_rfl) (OKG.o rfl (OK1.loadP1 (Has.t rfl) ty3)) ?_
        refine DrG.st (i := 4) [] rfl rfl rfl (by kernel_rfl) (OKG.o rfl (OK1.mv (Has.t rfl))) ?_
        refine DrG.st (i := 5) [] rfl rfl rfl (by kernel_rfl) (OKG.o rfl (OK1.mv (Has.t rfl))) ?_
        refine DrG.st (i := 6) [42, 43] rfl rfl rfl (by kernel_rfl) (OKG.o rfl (OK1.ixP sl32 ty3 (Has.t rfl) (Has.t rfl) ⟨by omega, by omega⟩ (getD_some (d := 0) (by first | omega | (simp only [Int.toNat_natCast, List.length_set]; omega))))) ?_
        refine DrG.st (i := 7) [44] rfl rfl rfl (by kernel_rfl) (OKG.o rfl (OK1.loadP1 (Has.t rfl) ty3)) ?_
        refine DrG.fin (n := 8) mixed (by kernel_rfl) (by kernel_rfl) (by kernel_rfl) ?_
        refine Ops.cv (Cv.wk (.cons (t := 5) (Has.t rfl) (.cons (t := 6) (Has.t rfl) (.cons (t := 7) (Has.t rfl) (.cons (t := 25) (Has.t rfl) (.cons (t := 26) (Has.t rfl) (.cons (t := 29) (Has.t rfl) (.cons (t := 30) (Has.t rfl) (.cons (t := 31) (Has.t rfl) (.cons (t := 32) (Has.t rfl) (.cons (t := 33) (Has.t rfl) (.cons (t := 34) (Has.t rfl) (.cons (t := 35) (Has.t rfl) (.cons (t := 36) (Has.t rfl) (.cons (t := 37) (Has.t rfl) (.cons (t := 38) (Has.t rfl) (.cons (t := 39) (Has.t rfl) (.cons (t := 40) (Has.t rfl) (.cons (t := 41) (Has.t rfl) (.cons (t := 42) (Has.t rfl) (.cons (t := 43) (Has.t rfl) (.cons (t := 44) (Has.t rfl) (.cons (t := 45) (Has.t rfl) .nil))))))))))))))))))))))) ?_
        refine st (OK1.gtI (Has.t rfl) (Has.t rfl)) rfl ?_
        refine nl ?_
        refine At.thn (hK18 _ _ ?_); clear hK18
        refine Tri.cond (Has.t rfl) (fun hc5 => ?_) (fun hc5 => ?_)
        · have hc5 := BP.t hc5
          have HG := hc5
          refine Tri.seq fun K19 hK19 => ?_
          refine Tri.region ?_
          refine st (OK1.as (Has.cI 1 rfl)) rfl ?_
          refine nl ?_
          refine At.thn (hK19 _ _ ?_); clear hK19
          refine Tri.ret ?_
          refine At.blr ?_
          refine At.thr ?_
          refine At.thr ?_
          refine At.blr ?_
          refine At.thr ?_
          refine rt1 (.inl rfl) Try.results162 rfl (.tmp (Has.t' rfl ?_) .nil)
          all_goals (rw [ek] at HG; exact isI_eq (d_cmp_gt (by omega) he (by omega)))
        · have hc5 := BP.f hc5
          have HG := hc5
          refine Tri.skip ?_
          refine At.bln ?_
          refine At.thn (hK14 _ _ ?_); clear hK14
          refine Tri.region ?_
          refine st (OK1.mv (Has.t rfl)) rfl ?_
          refine st (OK1.subI (Has.t rfl) (Has.cI 1 rfl) (by first | with_reducible assumption | omega | with_reducible exact d_words_ok _ | with_reducible exact d_wordsN_ok _ _ | (simp only [d_val_words]; omega)) (by first | with_reducible assumption | omega | with_reducible exact d_words_ok _ | with_reducible exact d_wordsN_ok _ _ | (simp only [d_val_words]; omega))) rfl ?_
          refine st (OK1.as (Has.t rfl)) rfl ?_
          refine nl ?_
          refine At.thn ?_
          refine hK11 (⟨k - 1, by omega, d_cmp_step (by omega) he (by rw [ek] at HL HG; omega)⟩) _ _ ?_ (Cv.mem (.cons (t := 7) (Has.t' rfl ?_) (.cons (t := 5) (Has.t rfl) (.cons (t := 6) (Has.t rfl) .nil))) ?_)
          · show k - 1 < k; omega
          · exact isI_eq (by show _ = ((k - 1 : Nat) : Int) - 1; omega)
          · rfl
    · have hc3 := BP.f hc3
      refine Tri.exit ?_
      refine At.the ?_
      refine At.the ?_
      refine At.blh ?_
      refine At.thn (hK9 _ _ ?_); clear hK9
      refine Tri.cv (Cv.wk .nil) ?_
      refine Tri.seq fun K20 hK20 => ?_
      refine Tri.region ?_
      refine st (OK1.as (Has.cI 0 rfl)) rfl ?_
      refine nl ?_
      refine At.thn (hK20 _ _ ?_); clear hK20
      refine Tri.ret ?_
      refine rt1 (.inl rfl) Try.results162 rfl (.tmp (Has.t' rfl ?_) .nil)
      all_goals (exact isI_eq (d_cmp_eq he (by omega)))

set_option maxHeartbeats 4000000 in
theorem ref03_bit {n i : Nat} (hi : i < 16 * (List.length (digs n))) : Ctr Try.prog 161 [SlM isN (digs n), isI (i : Int)] (isN (n / 2 ^ i % 2)) := by
  refine Ctr.intro Try.func161 rfl (by kernel_rfl) Try.ntmps161 rfl fun w0 F0 => ?_
  refine Tri.cv (Cv.wk (.cons (t := 0) (Has.t rfl) (.cons (t := 1) (Has.t rfl) .nil))) ?_
  refine Tri.fact (Has.lenLt (Has.t (t := 0) rfl)) fun lt0 => ?_
  refine Tri.fact (Has.rngI (Has.t (t := 1) rfl)) fun lt1 => ?_
  have hdb := d_dig_lt n (i / 16)
  unfold D at hdb
  refine Tri.seq fun K1 hK1 => ?_
  refine Tri.region ?_
  refine st (OK1.as (Has.cI 0 rfl)) rfl ?_
  refine nl ?_
  refine At.thn (hK1 _ _ ?_); clear hK1
  refine Tri.seq fun K2 hK2 => ?_
  refine Tri.region ?_
  refine st (OK1.mv (Has.t rfl)) rfl ?_
  refine st (OK1.mv (Has.t rfl)) rfl ?_
  refine st (OK1.eq (OK1.quoI (Has.t rfl) (Has.cI 16 rfl) (by first | with_reducible assumption | omega | with_reducible exact d_words_ok _ | with_reducible exact d_wordsN_ok _ _ | (simp only [d_val_words]; omega)) (by first | with_reducible assumption | omega | with_reducible exact d_words_ok _ | with_reducible exact d_wordsN_ok _ _ | (simp only [d_val_words]; omega)) (by first | with_reducible assumption | omega | with_reducible exact d_words_ok _ | with_reducible exact d_wordsN_ok _ _ | (simp only [d_val_words]; omega))) ((show isI _ = isI ((i / 16 : Nat) : Int) from isI_eq (by omega)))) rfl ?_
  refine st (OK1.ixP sl32 ty3 (Has.t rfl) (Has.t rfl) ⟨by omega, by omega⟩ (getD_some (d := 0) (by first | omega | (simp only [Int.toNat_natCast, List.length_set]; omega)))) rfl ?_
  refine st (OK1.eq (OK1.loadP1 (Has.t rfl) ty3) ((show isI _ = isN (dg n (i / 16)) from isI_eq (by rw [Int.toNat_natCast, d_getD_words])))) rfl ?_
  refine st (OK1.as (Has.t rfl)) rfl ?_
  refine nl ?_
  refine At.thn (hK2 _ _ ?_); clear hK2
  refine Tri.cv (Cv.wk (.cons (t := 1) (Has.t rfl) (.cons (t := 4) (Has.t rfl) (.cons (t := 5) (Has.t rfl) .nil)))) ?_
  refine Tri.seq fun K3 hK3 => ?_
  refine Tri.seq fun K4 hK4 => ?_
  refine Tri.region ?_
  refine st (OK1.as (Has.cI 0 rfl)) rfl ?_
  refine nl ?_
  refine At.thn (hK4 _ _ ?_); clear hK4
  refine Tri.block ?_
  refine Tri.loopF [1, 4] (fun (z : { k : Nat // k ≤ i % 16 }) => match z with | ⟨k, hk⟩ => [(6, isI (k : Int)), (5, isN (dg n (i / 16) / 2 ^ k))]) (fun M => fun (z : { k : Nat // k ≤ i % 16 }) => match z with | ⟨k, hk⟩ => M) (fun (z : { k : Nat // k ≤ i % 16 }) => match z with | ⟨k, hk⟩ => i % 16 - k) (⟨0, Nat.zero_le _⟩) (Cv.mem (.cons (t := 6) (Has.t' rfl ?_) (.cons (t := 5) (Has.t' rfl ?_) (.cons (t := 1) (Has.t rfl) (.cons (t := 4) (Has.t rfl) .nil)))) ?_) ?_
  · rfl
  · exact isI_eq (by rw [Nat.pow_zero, Nat.div_one])
  · rfl
  rintro ⟨k, hk⟩ K5 hK5
  refine Tri.cv (Cv.wk (.cons (t := 6) (Has.t rfl) (.cons (t := 5) (Has.t rfl) (.cons (t := 1) (Has.t rfl) (.cons (t := 4) (Has.t rfl) .nil))))) ?_
  have hle := Nat.div_le_self (dg n (i / 16)) (2 ^ k)
  refine Tri.seq fun K6 hK6 => ?_
  refine Tri.seq fun K7 hK7 => ?_
  refine Tri.region ?_
  refine st (OK1.mv (Has.t rfl)) rfl ?_
  refine st (OK1.mv (Has.t rfl)) rfl ?_
  refine st (OK1.eq (OK1.remI (Has.t rfl) (Has.cI 16 rfl) (by first | with_reducible assumption | omega | with_reducible exact d_words_ok _ | with_reducible exact d_wordsN_ok _ _ | (simp only [d_val_words]; omega)) (by first | with_reducible assumption | omega | with_reducible exact d_words_ok _ | with_reducible exact d_wordsN_ok _ _ | (simp only [d_val_words]; omega)) (by first | with_reducible assumption | omega | with_reducible exact d_words_ok _ | with_reducible exact d_wordsN_ok _ _ | (simp only [d_val_words]; omega))) ((show isI _ = isI ((i % 16 : Nat) : Int) from isI_eq (by omega)))) rfl ?_
  refine st (OK1.ltI (Has.t rfl) (Has.t rfl)) rfl ?_
  refine nl ?_
  refine At.thn (hK7 _ _ ?_); clear hK7
  refine Tri.cond (Has.t rfl) (fun hc1 => ?_) (fun hc1 => ?_)
  · have hc1 := BP.t hc1
    refine Tri.skip ?_
    refine At.thn (hK6 _ _ ?_); clear hK6
    refine Tri.seq fun K8 hK8 => ?_
    refine Tri.block ?_
    refine Tri.region ?_
    refine st (OK1.mv (Has.t rfl)) rfl ?_
    refine st (OK1.eq (OK1.quoI (Has.t rfl) (Has.cI 2 rfl) (by first | with_reducible exact bit_lt _ _ _ | with_reducible exact Int.natCast_nonneg _ | decide | omega) (by first | with_reducible exact bit_lt _ _ _ | with_reducible exact Int.natCast_nonneg _ | decide | omega) (by first | with_reducible exact bit_lt _ _ _ | with_reducible exact Int.natCast_nonneg _ | decide | omega)) ((show isI _ = isN (dg n (i / 16) / 2 ^ k / 2) from isI_eq (by omega)))) rfl ?_
    refine st (OK1.as (Has.t rfl)) rfl ?_
    refine nl ?_
    refine At.bln ?_
    refine At.thn (hK8 _ _ ?_); clear hK8
    refine Tri.region ?_
    refine st (OK1.mv (Has.t rfl)) rfl ?_
    refine st (OK1.addI (Has.t rfl) (Has.cI 1 rfl) (by first | with_reducible assumption | omega | with_reducible exact d_words_ok _ | with_reducible exact d_wordsN_ok _ _ | (simp only [d_val_words]; omega)) (by first | with_reducible assumption | omega | with_reducible exact d_words_ok _ | with_reducible exact d_wordsN_ok _ _ | (simp only [d_val_words]; omega))) rfl ?_
    refine st (OK1.as (Has.t rfl)) rfl ?_
    refine nl ?_
    refine At.thn ?_
    refine hK5 (⟨k + 1, by omega⟩) _ _ ?_ (Cv.mem (.cons (t := 6) (Has.t' rfl ?_) (.cons (t := 5) (Has.t' rfl ?_) (.cons (t := 1) (Has.t rfl) (.cons (t := 4) (Has.t rfl) .nil)))) ?_)
    · show i % 16 - (k + 1) < i % 16 - k; omega
    · rfl
    · exact isI_eq (by rw [Nat.pow_succ, ← Nat.div_div_eq_div_mul])
    · rfl
  · have hc1 := BP.f hc1
    refine Tri.exit ?_
    refine At.the ?_
    refine At.the ?_
    refine At.blh ?_
    refine At.thn (hK3 _ _ ?_); clear hK3
    refine Tri.cv (Cv.wk (.cons (t := 4) (Has.t rfl) (.cons (t := 5) (Has.t rfl) .nil))) ?_
    refine Tri.seq fun K9 hK9 => ?_
    refine Tri.region ?_
    refine st (OK1.mv (Has.t rfl)) rfl ?_
    refine st (OK1.eq (OK1.remI (Has.t rfl) (Has.cI 2 rfl) (by first | with_reducible exact bit_lt _ _ _ | with_reducible exact Int.natCast_nonneg _ | decide | omega) (by first | with_reducible exact bit_lt _ _ _ | with_reducible exact Int.natCast_nonneg _ | decide | omega) (by first | with_reducible exact bit_lt _ _ _ | with_reducible exact Int.natCast_nonneg _ | decide | omega)) ((show isI _ = isN (dg n (i / 16) / 2 ^ k % 2) from isI_eq (by omega)))) rfl ?_
    refine st (OK1.as (Has.t rfl)) rfl ?_
    refine nl ?_
    refine At.thn (hK9 _ _ ?_); clear hK9
    refine Tri.ret ?_
    refine rt1 (.inl rfl) Try.results161 rfl (.tmp (Has.t' rfl ?_) .nil)
    all_goals (obtain rfl : k = i % 16 := (by omega); exact isI_eq (by rw [bit_dg]))

theorem ref_dm {a b s t r2 : Nat} (hb : 0 < b) (ht : t = a / 2 ^ s % 2) (hr : r2 = a / 2 ^ (s + 1) % b + a / 2 ^ (s + 1) % b + t) :
    (b ≤ r2 → a / 2 ^ (s + 1) / b + a / 2 ^ (s + 1) / b + 1 = a / 2 ^ s / b ∧ r2 - b = a / 2 ^ s % b) ∧ (r2 < b → a / 2 ^ (s + 1) / b + a / 2 ^ (s + 1) / b = a / 2 ^ s / b ∧ r2 = a / 2 ^ s % b) := by
  have es := bit_step a s
  rw [← ht] at es
  have hd := dm_step (A := a / 2 ^ (s + 1)) (t := t) hb (by omega)
  rw [← es] at hd
  constructor
  · intro h
    have := hd.1 (by omega)
    omega
  · intro h
    have := hd.2 (by omega)
    omega


set_option maxHeartbeats 4000000 in
theorem ref03_DivMod {a b : Nat} (hb : 0 < b) (ha : (List.length (digs a)) ≤ 16777216) (hb2 : (List.length (digs b)) ≤ 16777216) : Ctr Try.prog 134 [SlM isN (digs a), SlM isN (digs b)] (isTup [SlM isN (digs (a / b)), SlM isN (digs (a % b))]) := by
  refine Ctr.intro Try.func134 rfl (by kernel_rfl) Try.ntmps134 rfl fun w0 F0 => ?_
  refine Tri.cv (Cv.wk (.cons (t := 0) (Has.t rfl) (.cons (t := 1) (Has.t rfl) .nil))) ?_
  refine Tri.fact (Has.lenLt (Has.t (t := 0) rfl)) fun lt0 => ?_
  refine Tri.fact (Has.lenLt (Has.t (t := 1) rfl)) fun lt1 => ?_
  refine Tri.seq fun K1 hK1 => ?_
  refine Tri.region ?_
  refine st (OK1.as (Has.cW (f := isN))) rfl ?_
  refine st (OK1.as (Has.cW (f := isN))) rfl ?_
  refine nl ?_
  refine At.thn (hK1 _ _ ?_); clear hK1
  refine Tri.seq fun K2 hK2 => ?_
  refine Tri.region ?_
  refine st (OK1.as (Has.cW (f := isN))) rfl ?_
  refine st (OK1.as (Has.cW (f := isN))) rfl ?_
  refine nl ?_
  refine At.thn (hK2 _ _ ?_); clear hK2
  refine Tri.seq fun K3 hK3 => ?_
  refine Tri.seq fun K4 hK4 => ?_
  refine Tri.region ?_
  refine st (OK1.mv (Has.t rfl)) rfl ?_
  refine st (OK1.len sl32 (Has.t rfl)) rfl ?_
  refine st (OK1.mulI (Has.cI 16 rfl) (Has.t rfl) (by first | with_reducible assumption | omega | with_reducible exact d_words_ok _ | with_reducible exact d_wordsN_ok _ _ | (simp only [d_val_words]; omega)) (by first | with_reducible assumption | omega | with_reducible exact d_words_ok _ | with_reducible exact d_wordsN_ok _ _ | (simp only [d_val_words]; omega))) rfl ?_
  refine st (OK1.subI (Has.t rfl) (Has.cI 1 rfl) (by first | with_reducible assumption | omega | with_reducible exact d_words_ok _ | with_reducible exact d_wordsN_ok _ _ | (simp only [d_val_words]; omega)) (by first | with_reducible assumption | omega | with_reducible exact d_words_ok _ | with_reducible exact d_wordsN_ok _ _ | (simp only [d_val_words]; omega))) rfl ?_
  refine st (OK1.as (Has.t rfl)) rfl ?_
  refine nl ?_
  refine At.thn (hK4 _ _ ?_); clear hK4
  refine Tri.block ?_
  refine Tri.loopF [0, 1, 4, 5] (fun (z : { t : Nat // t ≤ 16 * (List.length (digs a)) }) => match z with | ⟨t, ht⟩ => [(8, isI ((t : Int) - 1)), (6, SlM isN (digs (a / 2 ^ t / b))), (7, SlM isN (digs (a / 2 ^ t % b)))]) (fun M => fun (z : { t : Nat // t ≤ 16 * (List.length (digs a)) }) => match z with | ⟨t, ht⟩ => M) (fun (z : { t : Nat // t ≤ 16 * (List.length (digs a)) }) => match z with | ⟨t, ht⟩ => t) (⟨16 * (List.length (digs a)), Nat.le_refl _⟩) (Cv.mem (.cons (t := 8) (Has.t' rfl ?_) (.cons (t := 6) (Has.t' rfl ?_) (.cons (t := 7) (Has.t' rfl ?_) (.cons (t := 0) (Has.t rfl) (.cons (t := 1) (Has.t rfl) (.cons (t := 4) (Has.t rfl) (.cons (t := 5) (Has.t rfl) .nil))))))) ?_) ?_
  · exact isI_eq (by omega)
  · exact SlM_eq (by rw [dm_top, Nat.zero_div, d_words_zero])
  · exact SlM_eq (by rw [dm_top, Nat.zero_mod, d_words_zero])
  · rfl
  rintro ⟨t, ht⟩ K5 hK5
  refine Tri.cv (Cv.wk (.cons (t := 8) (Has.t rfl) (.cons (t := 6) (Has.t rfl) (.cons (t := 7) (Has.t rfl) (.cons (t := 0) (Has.t rfl) (.cons (t := 1) (Has.t rfl) (.cons (t := 4) (Has.t rfl) (.cons (t := 5) (Has.t rfl) .nil)))))))) ?_
  refine Tri.seq fun K6 hK6 => ?_
  refine Tri.seq fun K7 hK7 => ?_
  refine Tri.region ?_
  refine st (OK1.mv (Has.t rfl)) rfl ?_
  refine st (OK1.geI (Has.t rfl) (Has.cI 0 rfl)) rfl ?_
  refine nl ?_
  refine At.thn (hK7 _ _ ?_); clear hK7
  refine Tri.cond (Has.t rfl) (fun hc1 => ?_) (fun hc1 => ?_)
  · have hc1 := BP.t hc1
    obtain ⟨s, rfl⟩ : ∃ s, t = s + 1 := ⟨t - 1, by omega⟩
    have f1 : (List.length (digs (a / 2 ^ (s + 1) / b))) ≤ (List.length (digs a)) := d_nw_mono (Nat.le_trans (Nat.div_le_self _ _) (Nat.div_le_self _ _))
    have f2 : (List.length (digs (a / 2 ^ (s + 1) % b))) ≤ (List.length (digs b)) := d_nw_mono (Nat.le_of_lt (Nat.mod_lt _ hb))
    have f3 : (List.length (digs (a / 2 ^ (s + 1) / b + a / 2 ^ (s + 1) / b))) ≤ (List.length (digs (a / 2 ^ (s + 1) / b))) + 1 := nd_double (by omega)
    have f4 : (List.length (digs (a / 2 ^ (s + 1) % b + a / 2 ^ (s + 1) % b))) ≤ (List.length (digs (a / 2 ^ (s + 1) % b))) + 1 := nd_double (by omega)
    have f5 : (List.length (digs (a / 2 ^ (s + 1) % b + a / 2 ^ (s + 1) % b + 1))) ≤ (List.length (digs (a / 2 ^ (s + 1) % b))) + 1 := nd_double (by omega)
    have f6 : (List.length (digs 1)) = 1 := by rw [one_digs]; rfl
    refine Tri.skip ?_
    refine At.thn (hK6 _ _ ?_); clear hK6
    refine Tri.seq fun K8 hK8 => ?_
    refine Tri.block ?_
    refine Tri.seq fun K9 hK9 => ?_
    refine Tri.region ?_
    refine st (OK1.mv (Has.t rfl)) rfl ?_
    refine st (OK1.mv (Has.t rfl)) rfl ?_
    refine st (OK1.call (ref01_Add (by first | with_reducible assumption | omega | with_reducible exact d_words_ok _ | with_reducible exact d_wordsN_ok _ _ | (simp only [d_val_words]; omega)) (by first | with_reducible assumption | omega | with_reducible exact d_words_ok _ | with_reducible exact d_wordsN_ok _ _ | (simp only [d_val_words]; omega))) (.cons (Has.t rfl) (.cons (Has.t rfl) .nil))) rfl ?_
    refine st (OK1.as (Has.t rfl)) rfl ?_
    refine nl ?_
    refine At.thn (hK9 _ _ ?_); clear hK9
    refine Tri.seq fun K10 hK10 => ?_
    refine Tri.region ?_
    refine st (OK1.mv (Has.t rfl)) rfl ?_
    refine st (OK1.mv (Has.t rfl)) rfl ?_
    refine st (OK1.call (ref01_Add (by first | with_reducible assumption | omega | with_reducible exact d_words_ok _ | with_reducible exact d_wordsN_ok _ _ | (simp only [d_val_words]; omega)) (by first | with_reducible assumption | omega | with_reducible exact d_words_ok _ | with_reducible exact d_wordsN_ok _ _ | (simp only [d_val_words]; omega))) (.cons (Has.t rfl) (.cons (Has.t rfl) .nil))) rfl ?_
    refine st (OK1.as (Has.t rfl)) rfl ?_
    refine nl ?_
    refine At.thn (hK10 _ _ ?_); clear hK10
    refine Tri.seq fun K11 hK11 => ?_
    refine Tri.seq fun K12 hK12 => ?_
    refine Tri.region ?_
    refine st (OK1.mv (Has.t rfl)) rfl ?_
    refine st (OK1.eq (OK1.mv (Has.t rfl)) ((show isI _ = isI (s : Int) from isI_eq (by omega)))) rfl ?_
    refine st (OK1.call (ref03_bit (by first | with_reducible assumption | omega | with_reducible exact d_words_ok _ | with_reducible exact d_wordsN_ok _ _ | (simp only [d_val_words]; omega))) (.cons (Has.t rfl) (.cons (Has.t rfl) .nil))) rfl ?_
    refine st (OK1.eqI (Has.t rfl) (Has.cI 1 rfl)) rfl ?_
    refine nl ?_
    refine At.thn (hK12 _ _ ?_); clear hK12
    refine Tri.cond (Has.t rfl) (fun hc2 => ?_) (fun hc2 => ?_)
    · have hc2 := BP.t hc2
      have HB := hc2
      refine Tri.region ?_
      refine st (OK1.mv (Has.t rfl)) rfl ?_
      refine st (OK1.eq (OK1.buildS [isI 0] sl32 ty3 zero3 (fun _ _ => ⟨⟨rfl, by decide, by decide⟩, trivial⟩) rfl rfl (.cons (Has.cI 1 rfl) rfl rfl rfl .nil) rfl (S := SlM isN [1]) rfl) ((show SlM isN [1] = SlM isN (digs 1) from SlM_eq one_digs.symm))) rfl ?_
      refine st (OK1.call (ref01_Add (by first | with_reducible assumption | omega | with_reducible exact d_words_ok _ | with_reducible exact d_wordsN_ok _ _ | (simp only [d_val_words]; omega)) (by first | with_reducible assumption | omega | with_reducible exact d_words_ok _ | with_reducible exact d_wordsN_ok _ _ | (simp only [d_val_words]; omega))) (.cons (Has.t rfl) (.cons (Has.t rfl) .nil))) rfl ?_
      refine st (OK1.as (Has.t rfl)) rfl ?_
      refine nl ?_
      refine At.thn (hK11 _ _ ?_); clear hK11
      refine Tri.seq fun K13 hK13 => ?_
      refine Tri.region ?_
      refine st (OK1.mv (Has.t rfl)) rfl ?_
      refine st (OK1.mv (Has.t rfl)) rfl ?_
      refine st (OK1.call (ref01_Cmp (by first | with_reducible assumption | omega | with_reducible exact d_words_ok _ | with_reducible exact d_wordsN_ok _ _ | (simp only [d_val_words]; omega)) (by first | with_reducible assumption | omega | with_reducible exact d_words_ok _ | with_reducible exact d_wordsN_ok _ _ | (simp only [d_val_words]; omega))) (.cons (Has.t rfl) (.cons (Has.t rfl) .nil))) rfl ?_
      refine st (OK1.geI (Has.t rfl) (Has.cI 0 rfl)) rfl ?_
      refine nl ?_
      refine At.thn (hK13 _ _ ?_); clear hK13
      refine Tri.cond (Has.t rfl) (fun hc3 => ?_) (fun hc3 => ?_)
      · have hc3 := BP.t hc3
        have HG := hc3
        have hge := cmpN_nn HG
        refine Tri.seq fun K14 hK14 => ?_
        refine Tri.region ?_
        refine st (OK1.mv (Has.t rfl)) rfl ?_
        refine st (OK1.mv (Has.t rfl)) rfl ?_
        refine st (OK1.call (ref01_Sub (by first | with_reducible assumption | omega | with_reducible exact d_words_ok _ | with_reducible exact d_wordsN_ok _ _ | (simp only [d_val_words]; omega)) (by first | with_reducible assumption | omega | with_reducible exact d_words_ok _ | with_reducible exact d_wordsN_ok _ _ | (simp only [d_val_words]; omega))) (.cons (Has.t rfl) (.cons (Has.t rfl) .nil))) rfl ?_
        refine st (OK1.as (Has.t rfl)) rfl ?_
        refine nl ?_
        refine At.thn (hK14 _ _ ?_); clear hK14
        refine Tri.region ?_
        refine st (OK1.mv (Has.t rfl)) rfl ?_
        refine st (OK1.eq (OK1.buildS [isI 0] sl32 ty3 zero3 (fun _ _ => ⟨⟨rfl, by decide, by decide⟩, trivial⟩) rfl rfl (.cons (Has.cI 1 rfl) rfl rfl rfl .nil) rfl (S := SlM isN [1]) rfl) ((show SlM isN [1] = SlM isN (digs 1) from SlM_eq one_digs.symm))) rfl ?_
        refine st (OK1.call (ref01_Add (by first | with_reducible assumption | omega | with_reducible exact d_words_ok _ | with_reducible exact d_wordsN_ok _ _ | (simp only [d_val_words]; omega)) (by first | with_reducible assumption | omega | with_reducible exact d_words_ok _ | with_reducible exact d_wordsN_ok _ _ | (simp only [d_val_words]; omega))) (.cons (Has.t rfl) (.cons (Has.t rfl) .nil))) rfl ?_
        refine st (OK1.as (Has.t rfl)) rfl ?_
        refine nl ?_
        refine At.bln ?_
        refine At.thn (hK8 _ _ ?_); clear hK8
        refine Tri.region ?_
        refine st (OK1.mv (Has.t rfl)) rfl ?_
        refine st (OK1.subI (Has.t rfl) (Has.cI 1 rfl) (by first | with_reducible assumption | omega | with_reducible exact d_words_ok _ | with_reducible exact d_wordsN_ok _ _ | (simp only [d_val_words]; omega)) (by first | with_reducible assumption | omega | with_reducible exact d_words_ok _ | with_reducible exact d_wordsN_ok _ _ | (simp only [d_val_words]; omega))) rfl ?_
        refine st (OK1.as (Has.t rfl)) rfl ?_
        refine nl ?_
        refine At.thn ?_
        refine hK5 (⟨s, by omega⟩) _ _ ?_ (Cv.mem (.cons (t := 8) (Has.t' rfl ?_) (.cons (t := 6) (Has.t' rfl ?_) (.cons (t := 7) (Has.t' rfl ?_) (.cons (t := 0) (Has.t rfl) (.cons (t := 1) (Has.t rfl) (.cons (t := 4) (Has.t rfl) (.cons (t := 5) (Has.t rfl) .nil))))))) ?_)
        · show s < s + 1; omega
        · exact isI_eq (by omega)
        · exact SlM_eq (congrArg digs ((ref_dm (t := 1) hb (by omega) rfl).1 (cmpN_nn HG)).1)
        · exact SlM_eq (congrArg digs ((ref_dm (t := 1) hb (by omega) rfl).1 (cmpN_nn HG)).2)
        · rfl
      · have hc3 := BP.f hc3
        have HG := hc3
        refine Tri.skip ?_
        refine At.bln ?_
        refine At.thn (hK8 _ _ ?_); clear hK8
        refine Tri.region ?_
        refine st (OK1.mv (Has.t rfl)) rfl ?_
        refine st (OK1.subI (Has.t rfl) (Has.cI 1 rfl) (by first | with_reducible assumption | omega | with_reducible exact d_words_ok _ | with_reducible exact d_wordsN_ok _ _ | (simp only [d_val_words]; omega)) (by first | with_reducible assumption | omega | with_reducible exact d_words_ok _ | with_reducible exact d_wordsN_ok _ _ | (simp only [d_val_words]; omega))) rfl ?_
        refine st (OK1.as (Has.t rfl)) rfl ?_
        refine nl ?_
        refine At.thn ?_
        refine hK5 (⟨s, by omega⟩) _ _ ?_ (Cv.mem (.cons (t := 8) (Has.t' rfl ?_) (.cons (t := 6) (Has.t' rfl ?_) (.cons (t := 7) (Has.t' rfl ?_) (.cons (t := 0) (Has.t rfl) (.cons (t := 1) (Has.t rfl) (.cons (t := 4) (Has.t rfl) (.cons (t := 5) (Has.t rfl) .nil))))))) ?_)
        · show s < s + 1; omega
        · exact isI_eq (by omega)
        · exact SlM_eq (congrArg digs ((ref_dm (t := 1) hb (by omega) rfl).2 (cmpN_neg.1 HG)).1)
        · exact SlM_eq (congrArg digs ((ref_dm (t := 1) hb (by omega) rfl).2 (cmpN_neg.1 HG)).2)
        · rfl
    · have hc2 := BP.f hc2
      have HB := hc2
      have hbit := Nat.mod_lt (a / 2 ^ s) (show 0 < 2 by decide)
      refine Tri.skip ?_
      refine At.thn (hK11 _ _ ?_); clear hK11
      refine Tri.seq fun K15 hK15 => ?_
      refine Tri.region ?_
      refine st (OK1.mv (Has.t rfl)) rfl ?_
      refine st (OK1.mv (Has.t rfl)) rfl ?_
      refine st (OK1.call (ref01_Cmp (by first | with_reducible assumption | omega | with_reducible exact d_words_ok _ | with_reducible exact d_wordsN_ok _ _ | (simp only [d_val_words]; omega)) (by first | with_reducible assumption | omega | with_reducible exact d_words_ok _ | with_reducible exact d_wordsN_ok _ _ | (simp only [d_val_words]; omega))) (.cons (Has.t rfl) (.cons (Has.t rfl) .nil))) rfl ?_
      refine st (OK1.geI (Has.t rfl) (Has.cI 0 rfl)) rfl ?_
      refine nl ?_
      refine At.thn (hK15 _ _ ?_); clear hK15
      refine Tri.cond (Has.t rfl) (fun hc4 => ?_) (fun hc4 => ?_)
      · have hc4 := BP.t hc4
        have HG := hc4
        have hge := cmpN_nn HG
        refine Tri.seq fun K16 hK16 => ?_
        refine Tri.region ?_
        refine st (OK1.mv (Has.t rfl)) rfl ?_
        refine st (OK1.mv (Has.t rfl)) rfl ?_
        refine st (OK1.call (ref01_Sub (by first | with_reducible assumption | omega | with_reducible exact d_words_ok _ | with_reducible exact d_wordsN_ok _ _ | (simp only [d_val_words]; omega)) (by first | with_reducible assumption | omega | with_reducible exact d_words_ok _ | with_reducible exact d_wordsN_ok _ _ | (simp only [d_val_words]; omega))) (.cons (Has.t rfl) (.cons (Has.t rfl) .nil))) rfl ?_
        refine st (OK1.as (Has.t rfl)) rfl ?_
        refine nl ?_
        refine At.thn (hK16 _ _ ?_); clear hK16
        refine Tri.region ?_
        refine st (OK1.mv (Has.t rfl)) rfl ?_
        refine st (OK1.eq (OK1.buildS [isI 0] sl32 ty3 zero3 (fun _ _ => ⟨⟨rfl, by decide, by decide⟩, trivial⟩) rfl rfl (.cons (Has.cI 1 rfl) rfl rfl rfl .nil) rfl (S := SlM isN [1]) rfl) ((show SlM isN [1] = SlM isN (digs 1) from SlM_eq one_digs.symm))) rfl ?_
        refine st (OK1.call (ref01_Add (by first | with_reducible assumption | omega | with_reducible exact d_words_ok _ | with_reducible exact d_wordsN_ok _ _ | (simp only [d_val_words]; omega)) (by first | with_reducible assumption | omega | with_reducible exact d_words_ok _ | with_reducible exact d_wordsN_ok _ _ | (simp only [d_val_words]; omega))) (.cons (Has.t rfl) (.cons (Has.t rfl) .nil))) rfl ?_
        refine st (OK1.as (Has.t rfl)) rfl ?_
        refine nl ?_
        refine At.bln ?_
        refine At.thn (hK8 _ _ ?_); clear hK8
        refine Tri.region ?_
        refine st (OK1.mv (Has.t rfl)) rfl ?_
        refine st (OK1.subI (Has.t rfl) (Has.cI 1 rfl) (by first | with_reducible assumption | omega | with_reducible exact d_words_ok _ | with_reducible exact d_wordsN_ok _ _ | (simp only [d_val_words]; omega)) (by first | with_reducible assumption | omega | with_reducible exact d_words_ok _ | with_reducible exact d_wordsN_ok _ _ | (simp only [d_val_words]; omega))) rfl ?_
        refine st (OK1.as (Has.t rfl)) rfl ?_
        refine nl ?_
        refine At.thn ?_
        refine hK5 (⟨s, by omega⟩) _ _ ?_ (Cv.mem (.cons (t := 8) (Has.t' rfl ?_) (.cons (t := 6) (Has.t' rfl ?_) (.cons (t := 7) (Has.t' rfl ?_) (.cons (t := 0) (Has.t rfl) (.cons (t := 1) (Has.t rfl) (.cons (t := 4) (Has.t rfl) (.cons (t := 5) (Has.t rfl) .nil))))))) ?_)
        · show s < s + 1; omega
        · exact isI_eq (by omega)
        · exact SlM_eq (congrArg digs ((ref_dm (t := 0) hb (by omega) rfl).1 (cmpN_nn HG)).1)
        · exact SlM_eq (congrArg digs ((ref_dm (t := 0) hb (by omega) rfl).1 (cmpN_nn HG)).2)
        · rfl
      · have hc4 := BP.f hc4
        have HG := hc4
        refine Tri.skip ?_
        refine At.bln ?_
        refine At.thn (hK8 _ _ ?_); clear hK8
        refine Tri.region ?_
        refine st (OK1.mv (Has.t rfl)) rfl ?_
        refine st (OK1.subI (Has.t rfl) (Has.cI 1 rfl) (by first | with_reducible assumption | omega | with_reducible exact d_words_ok _ | with_reducible exact d_wordsN_ok _ _ | (simp only [d_val_words]; omega)) (by first | with_reducible assumption | omega | with_reducible exact d_words_ok _ | with_reducible exact d_wordsN_ok _ _ | (simp only [d_val_words]; omega))) rfl ?_
        refine st (OK1.as (Has.t rfl)) rfl ?_
        refine nl ?_
        refine At.thn ?_
        refine hK5 (⟨s, by omega⟩) _ _ ?_ (Cv.mem (.cons (t := 8) (Has.t' rfl ?_) (.cons (t := 6) (Has.t' rfl ?_) (.cons (t := 7) (Has.t' rfl ?_) (.cons (t := 0) (Has.t rfl) (.cons (t := 1) (Has.t rfl) (.cons (t := 4) (Has.t rfl) (.cons (t := 5) (Has.t rfl) .nil))))))) ?_)
        · show s < s + 1; omega
        · exact isI_eq (by omega)
        · exact SlM_eq (congrArg digs ((ref_dm (t := 0) hb (by omega) rfl).2 (cmpN_neg.1 HG)).1)
        · exact SlM_eq (congrArg digs ((ref_dm (t := 0) hb (by omega) rfl).2 (cmpN_neg.1 HG)).2)
        · rfl
  · have hc1 := BP.f hc1
    refine Tri.exit ?_
    refine At.the ?_
    refine At.the ?_
    refine At.blh ?_
    refine At.thn (hK3 _ _ ?_); clear hK3
    refine Tri.cv (Cv.wk (.cons (t := 4) (Has.t rfl) (.cons (t := 5) (Has.t rfl) (.cons (t := 6) (Has.t rfl) (.cons (t := 7) (Has.t rfl) .nil))))) ?_
    refine Tri.seq fun K17 hK17 => ?_
    refine Tri.region ?_
    refine st (OK1.mv (Has.t rfl)) rfl ?_
    refine st (OK1.mv (Has.t rfl)) rfl ?_
    refine st (OK1.as (Has.t rfl)) rfl ?_
    refine st (OK1.as (Has.t rfl)) rfl ?_
    refine nl ?_
    refine At.thn (hK17 _ _ ?_); clear hK17
    refine Tri.ret ?_
    refine rtN (.inl rfl) Try.results134 rfl rfl (.tmp (Has.t' rfl ?_) (.tmp (Has.t' rfl ?_) .nil))
    · obtain rfl : t = 0 := (by omega); exact SlM_eq (by rw [Nat.pow_zero, Nat.div_one])
    · obtain rfl : t = 0 := (by omega); exact SlM_eq (by rw [Nat.pow_zero, Nat.div_one])
end Go.Proofs.Ytokhpacdgoebpaa
